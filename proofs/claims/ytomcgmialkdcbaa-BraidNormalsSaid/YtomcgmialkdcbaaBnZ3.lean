/- Part 3 of the proof of the law BraidNormals: the walks through its functions and the plain laws that they need. -/
import Derived.Test.YtomcgmialkdcbaaBnZ2
import Derived.Maps.RangeRun
import Derived.Lib.AppendZeros
import Derived.RangeFuncNested
import Derived.RangeFuncBound
import Derived.RangeFuncCalls
import Derived.RangeFuncLeaves
import Derived.LoopNIn
import Derived.Laws.CopyRow
import Derived.Laws.IdiomCopy
set_option linter.unusedSimpArgs false
set_option linter.unusedVariables false
namespace Go.Proofs.Ytomcgmialkdcbaa
open Go.RowKit
open Wd
def fnP (p : List Int) : Nat → Nat := fun j => (ga p j).toNat
structure PL (n : Nat) (p : List Int) : Prop where
  len : p.length = n + 1
  z : ga p 0 = 0
  rg : ∀ j, 1 ≤ j → j ≤ n → 1 ≤ ga p j ∧ ga p j ≤ n
  ij : ∀ i j, 1 ≤ i → i ≤ n → 1 ≤ j → j ≤ n → ga p i = ga p j → i = j
  sj : ∀ i : Nat, 1 ≤ i → i ≤ n → ∃ j, 1 ≤ j ∧ j ≤ n ∧ ga p j = (i : Int)
section
variable {n : Nat} {p q : List Int}
theorem PL.pm (h : PL n p) : Pm n (fnP p) := by
  refine ⟨fun j h1 h2 => ?_, fun i j h1 h2 h3 h4 e => ?_⟩
  · have := h.rg j h1 h2; unfold fnP; omega
  · have a := h.rg i h1 h2
    have b := h.rg j h3 h4
    unfold fnP at e
    exact h.ij i j h1 h2 h3 h4 (by omega)
theorem idL_ga {i : Nat} (h : i ≤ n) : ga (idL n) i = (i : Int) := by
  unfold idL; rw [ga_map _ _ _ (by rw [List.length_range]; omega), ga_eq (by rw [List.length_range]; omega), List.getElem_range]
theorem idL_len (n : Nat) : (idL n).length = n + 1 := by simp [idL]
theorem PL.id_ (n : Nat) : PL n (idL n) := ⟨idL_len n, idL_ga (Nat.zero_le _), fun j h1 h2 => by rw [idL_ga h2]; omega, fun i j _ h2 _ h4 e => by rw [idL_ga h2, idL_ga h4] at e; omega, fun i h1 h2 => ⟨i, h1, h2, idL_ga h2⟩⟩
theorem PL.pl_of (h : PL n p) {j : Nat} (h1 : 1 ≤ j) (h2 : j ≤ n) : plL p (ga p j) = j := by
  unfold plL
  have hl := h.len
  rw [idxF_hit (k := j) (by omega) (by simp) (fun i hi => ?_)]
  · simp
  · rw [decide_eq_false_iff_not]
    intro e
    by_cases i0 : i = 0
    · subst i0; have := h.z; have := h.rg j h1 h2; omega
    · have := h.ij i j (by omega) (by omega) h1 h2 e; omega
theorem PL.pl (h : PL n p) {i : Nat} (h1 : 1 ≤ i) (h2 : i ≤ n) : 1 ≤ plL p (i : Int) ∧ plL p (i : Int) ≤ n ∧ ga p (plL p (i : Int)) = (i : Int) := by
  obtain ⟨j, a, b, e⟩ := h.sj i h1 h2
  have := h.pl_of a b
  rw [e] at this
  rw [this]; exact ⟨a, b, e⟩
theorem two_set {xs : List Int} {a b : Nat} (hab : a ≠ b) (ha : a < xs.length) (hb : b < xs.length) (u v : Int) (j : Nat) : ga ((xs.set a u).set b v) j = if j = a then u else if j = b then v else ga xs j := by
  rw [ga_set _ _ _ _ (by simpa using hb)]
  by_cases h1 : b = j
  · rw [if_pos h1, if_neg (by omega), if_pos h1.symm]
  · rw [if_neg h1, ga_set _ _ _ _ ha]
    by_cases h2 : a = j
    · rw [if_pos h2, if_pos h2.symm]
    · rw [if_neg h2, if_neg (fun e => h2 e.symm), if_neg (fun e => h1 e.symm)]
theorem PL.pl_ne (h : PL n p) {i : Nat} (h1 : 1 ≤ i) (h2 : i < n) : plL p (i : Int) ≠ plL p ((i : Int) + 1) := fun e => by
  have a := h.pl h1 (by omega)
  have b := h.pl (i := i + 1) (by omega) (by omega)
  rw [show ((i + 1 : Nat) : Int) = (i : Int) + 1 by omega, ← e, a.2.2] at b
  omega
theorem PL.pl2 (h : PL n p) {i : Nat} (h1 : 1 ≤ i) (h2 : i < n) : 1 ≤ plL p ((i : Int) + 1) ∧ plL p ((i : Int) + 1) ≤ n ∧ ga p (plL p ((i : Int) + 1)) = (i : Int) + 1 := h.pl (i := i + 1) (by omega) (by omega)
theorem thenL_at (h : PL n p) {i : Nat} (h1 : 1 ≤ i) (h2 : i < n) (j : Nat) : ga (thenL p (i : Int)) j = if j = plL p (i : Int) then (i : Int) + 1 else if j = plL p ((i : Int) + 1) then (i : Int) else ga p j := by
  have a := h.pl h1 (by omega)
  have b := h.pl2 h1 h2
  have hl := h.len
  unfold thenL
  rw [two_set (h.pl_ne h1 h2) (by omega) (by omega), a.2.2, b.2.2]
theorem thenL_len (p : List Int) (i : Int) : (thenL p i).length = p.length := by unfold thenL; simp
theorem PL.of_swap {p' : List Int} {a b : Nat} (h : PL n p) (ha : 1 ≤ a ∧ a ≤ n) (hb : 1 ≤ b ∧ b ≤ n) (hab : a ≠ b) (hl : p'.length = n + 1) (hg : ∀ j, ga p' j = if j = a then ga p b else if j = b then ga p a else ga p j) : PL n p' := by
  have ga_ : ga p' a = ga p b := by rw [hg, if_pos rfl]
  have gb_ : ga p' b = ga p a := by rw [hg, if_neg (Ne.symm hab), if_pos rfl]
  have gj : ∀ j, j ≠ a → j ≠ b → ga p' j = ga p j := fun j x y => by rw [hg, if_neg x, if_neg y]
  have tr : ∀ j, ∃ k, ga p' j = ga p k ∧ (1 ≤ j → j ≤ n → 1 ≤ k ∧ k ≤ n) ∧ (j = a ∧ k = b ∨ j = b ∧ k = a ∨ j ≠ a ∧ j ≠ b ∧ k = j) := fun j => by
    by_cases x : j = a
    · subst x; exact ⟨b, ga_, fun _ _ => hb, .inl ⟨rfl, rfl⟩⟩
    · by_cases y : j = b
      · subst y; exact ⟨a, gb_, fun _ _ => ha, .inr (.inl ⟨rfl, rfl⟩)⟩
      · exact ⟨j, gj j x y, fun u v => ⟨u, v⟩, .inr (.inr ⟨x, y, rfl⟩)⟩
  refine ⟨hl, by rw [gj 0 (by omega) (by omega)]; exact h.z, fun j h1 h2 => ?_, fun i j h1 h2 h3 h4 e => ?_, fun i h1 h2 => ?_⟩
  · obtain ⟨k, e, hk, _⟩ := tr j
    obtain ⟨k1, k2⟩ := hk h1 h2
    rw [e]; exact h.rg k k1 k2
  · obtain ⟨k, e1, hk, c1⟩ := tr i
    obtain ⟨m, e2, hm, c2⟩ := tr j
    obtain ⟨k1, k2⟩ := hk h1 h2
    obtain ⟨m1, m2⟩ := hm h3 h4
    have := h.ij k m k1 k2 m1 m2 (by rw [← e1, ← e2]; exact e)
    omega
  · obtain ⟨k, k1, k2, e⟩ := h.sj i h1 h2
    by_cases x : k = a
    · subst x; exact ⟨b, hb.1, hb.2, by rw [gb_, e]⟩
    · by_cases y : k = b
      · subst y; exact ⟨a, ha.1, ha.2, by rw [ga_, e]⟩
      · exact ⟨k, k1, k2, by rw [gj k x y, e]⟩
theorem PL.then_ (h : PL n p) {i : Nat} (h1 : 1 ≤ i) (h2 : i < n) : PL n (thenL p (i : Int)) := by
  have a := h.pl h1 (by omega)
  have b := h.pl2 h1 h2
  exact h.of_swap ⟨a.1, a.2.1⟩ ⟨b.1, b.2.1⟩ (h.pl_ne h1 h2) (by rw [thenL_len]; exact h.len) fun j => by rw [thenL_at h h1 h2, a.2.2, b.2.2]
theorem act_then (h : PL n p) {i : Nat} (h1 : 1 ≤ i) (h2 : i < n) (hlt : plL p (i : Int) < plL p ((i : Int) + 1)) (T : Nat → Wd) : EqT n (acT n (fnP (thenL p (i : Int))) T) (stT (acT n (fnP p) T) i) := by
  have a := h.pl h1 (by omega)
  have b := h.pl2 h1 h2
  refine acT_then h.pm (a := plL p (i : Int)) (b := plL p ((i : Int) + 1)) a.1 hlt b.2.1 ?_ ?_ (fun j => ?_) T
  · unfold fnP; rw [a.2.2]; omega
  · unfold fnP; rw [b.2.2]; omega
  · unfold fnP; rw [thenL_at h h1 h2]
    split
    · omega
    · split
      · omega
      · rfl
/-- Two neighbours change places. -/
def swL (q : List Int) (i : Nat) : List Int := (q.set i (ga q (i + 1))).set (i + 1) (ga q i)
theorem swL_len (q : List Int) (i : Nat) : (swL q i).length = q.length := by unfold swL; simp
theorem swL_at {i : Nat} (h : i + 1 < q.length) (j : Nat) : ga (swL q i) j = if j = i then ga q (i + 1) else if j = i + 1 then ga q i else ga q j := by
  unfold swL; rw [two_set (by omega) (by omega) h]
theorem PL.sw_ (h : PL n q) {i : Nat} (h1 : 1 ≤ i) (h2 : i < n) : PL n (swL q i) := by
  have hl := h.len
  exact h.of_swap ⟨h1, by omega⟩ ⟨by omega, h2⟩ (by omega) (by rw [swL_len]; exact hl) fun j => swL_at (by omega) j
theorem act_sw (h : PL n q) {i : Nat} (h1 : 1 ≤ i) (h2 : i < n) (hd : ga q (i + 1) < ga q i) (T : Nat → Wd) : EqT n (acT n (fnP (swL q i)) (stT T i)) (acT n (fnP q) T) := by
  have hl := h.len
  have a := h.rg i h1 (by omega)
  have b := h.rg (i + 1) (by omega) h2
  refine acT_first h1 h2 (by unfold fnP; omega) (fun j => ?_) T
  unfold fnP
  rw [swL_at (by omega)]
  split
  · rfl
  · split <;> rfl
def mkP (n : Nat) (f : Nat → Int) : List Int := (List.range (n + 1)).map fun i => if i = 0 then 0 else f i
theorem mkP_len (n : Nat) (f : Nat → Int) : (mkP n f).length = n + 1 := by simp [mkP]
theorem mkP_z (n : Nat) (f : Nat → Int) : ga (mkP n f) 0 = 0 := by
  unfold mkP; rw [ga_map _ _ _ (by rw [List.length_range]; omega), ga_eq (by rw [List.length_range]; omega), List.getElem_range, if_pos rfl]
theorem mkP_ga {f : Nat → Int} {i : Nat} (h1 : 1 ≤ i) (h2 : i ≤ n) : ga (mkP n f) i = f i := by
  unfold mkP; rw [ga_map _ _ _ (by rw [List.length_range]; omega), ga_eq (by rw [List.length_range]; omega), List.getElem_range, if_neg (by omega)]
def delL (n : Nat) : List Int := mkP n fun i => (n : Int) + 1 - i
def flipL (n : Nat) (p : List Int) : List Int := mkP n fun i => (n : Int) + 1 - ga p (n + 1 - i)
theorem delL_ga {i : Nat} (h1 : 1 ≤ i) (h2 : i ≤ n) : ga (delL n) i = (n : Int) + 1 - i := mkP_ga h1 h2
theorem flipL_ga {i : Nat} (h1 : 1 ≤ i) (h2 : i ≤ n) : ga (flipL n p) i = (n : Int) + 1 - ga p (n + 1 - i) := mkP_ga h1 h2
theorem PL.del_ (n : Nat) : PL n (delL n) := ⟨mkP_len _ _, mkP_z _ _, fun j h1 h2 => by rw [delL_ga h1 h2]; omega, fun i j h1 h2 h3 h4 e => by rw [delL_ga h1 h2, delL_ga h3 h4] at e; omega, fun i h1 h2 => ⟨n + 1 - i, by omega, by omega, by rw [delL_ga (by omega) (by omega)]; omega⟩⟩
theorem PL.flip_ (h : PL n p) : PL n (flipL n p) := by
  refine ⟨mkP_len _ _, mkP_z _ _, fun j h1 h2 => ?_, fun i j h1 h2 h3 h4 e => ?_, fun i h1 h2 => ?_⟩
  · have := h.rg (n + 1 - j) (by omega) (by omega); rw [flipL_ga h1 h2]; omega
  · rw [flipL_ga h1 h2, flipL_ga h3 h4] at e
    have := h.ij (n + 1 - i) (n + 1 - j) (by omega) (by omega) (by omega) (by omega) (by omega)
    omega
  · obtain ⟨j, j1, j2, e⟩ := h.sj (n + 1 - i) (by omega) (by omega)
    exact ⟨n + 1 - j, by omega, by omega, by rw [flipL_ga (by omega) (by omega), show n + 1 - (n + 1 - j) = j by omega, e]; omega⟩
theorem fn_del {j : Nat} (h1 : 1 ≤ j) (h2 : j ≤ n) : fnP (delL n) j = n + 1 - j := by unfold fnP; rw [delL_ga h1 h2]; omega
theorem fn_flip (h : PL n p) {j : Nat} (h1 : 1 ≤ j) (h2 : j ≤ n) : fnP (flipL n p) j = n + 1 - fnP p (n + 1 - j) := by
  have := h.rg (n + 1 - j) (by omega) (by omega); unfold fnP; rw [flipL_ga h1 h2]; omega
/-- Products ahead. -/
def pre (T : Nat → Wd) (m : Nat) : Wd := pr T (fun _ => true) 1 m
theorem pre_step (T : Nat → Wd) (m : Nat) : pre T (m + 1) = pre T m * T (m + 1) := by
  unfold pre
  rw [pr_add, pr, pr, if_pos rfl, mul_one, Nat.add_comm 1 m]
theorem pre_suf {m : Nat} (h : m ≤ n) (T : Nat → Wd) : pre T n = pre T m * suf n T m := by
  unfold pre suf
  have := pr_add T (fun _ => true) m 1 (n - m)
  rw [show m + (n - m) = n by omega, Nat.add_comm 1 m] at this
  exact this
theorem sK_del {k : Nat} (hk : k ≤ n) (T : Nat → Wd) : sK n (fnP (delL n)) T k = pre T (n - k) := by
  unfold sK pre
  have e := pr_add T (fun j => decide (k < fnP (delL n) j)) (n - k) 1 k
  rw [show n - k + k = n by omega] at e
  rw [e, pr_one (m := k) (fun j h1 h2 => decide_eq_false (by rw [fn_del (by omega) (by omega)]; omega)), mul_one]
  refine pr_cong fun j h1 h2 => ?_
  show (if decide (k < fnP (delL n) j) = true then T j else one) = if true = true then T j else one
  rw [if_pos (decide_eq_true (by rw [fn_del (by omega) (by omega)]; omega)), if_pos rfl]
theorem del_at {k : Nat} (h1 : 1 ≤ k) (h2 : k ≤ n) (T : Nat → Wd) : acT n (fnP (delL n)) T k = pre T (n + 1 - k) * inv (pre T (n - k)) := by
  unfold acT
  rw [if_pos ⟨h1, h2⟩, sK_del (by omega), sK_del h2, show n - (k - 1) = n + 1 - k by omega]
theorem pr_snoc (T : Nat → Wd) (P : Nat → Bool) (a m : Nat) : pr T P a (m + 1) = pr T P a m * (if P (a + m) then T (a + m) else one) := by
  rw [pr_add]
  exact congrArg _ (mul_one _)
theorem del_pr (P : Nat → Bool) (T : Nat → Wd) : ∀ m, m ≤ n → pr (acT n (fnP (delL n)) T) P (n + 1 - m) m = pre T m * inv (pr T (fun j => !P (n + 1 - j)) 1 m)
  | 0, _ => by show one = one * inv one; rw [inv_one, one_mul]
  | m + 1, h => by
    have ih := del_pr P T m (by omega)
    have e2 := pr_snoc T (fun j => !P (n + 1 - j)) 1 m
    rw [Nat.add_comm 1 m] at e2
    rw [pr, show n + 1 - (m + 1) + 1 = n + 1 - m by omega, ih, pre_step, e2, del_at (by omega) (by omega), show n + 1 - (n + 1 - (m + 1)) = m + 1 by omega, show n - (n + 1 - (m + 1)) = m by omega, pre_step]
    cases P (n + 1 - (m + 1)) with
    | true =>
      simp only [if_true, Bool.not_true, Bool.false_eq_true, if_false, mul_one, assoc, inv_mul_c]
    | false =>
      simp only [Bool.false_eq_true, if_false, Bool.not_false, if_true, one_mul, mul_inv_rev, assoc, mul_inv_c]
theorem act_flip (h : PL n p) (T : Nat → Wd) : EqT n (acT n (fnP p) (acT n (fnP (delL n)) T)) (acT n (fnP (delL n)) (acT n (fnP (flipL n p)) T)) := by
  refine EqT.of_suf fun k hk => ?_
  rw [suf_acT h.pm _ (m := n - k) (by omega), suf_acT (PL.del_ n).pm _ (m := n - k) (by omega), sK_del hk]
  have e1 := del_pr (fun j => decide (k < fnP p j)) T n (Nat.le_refl _)
  rw [show n + 1 - n = 1 by omega] at e1
  have e2 := pre_suf (n := n) (m := n - k) (by omega) (acT n (fnP (flipL n p)) T)
  have e3 : pre (acT n (fnP (flipL n p)) T) n = pre T n := by
    have := suf_acT h.flip_.pm T (m := n) (k := 0) (by omega)
    have e0 : ∀ U : Nat → Wd, suf n U 0 = pre U n := fun U => rfl
    rw [e0] at this
    rw [this]
    unfold sK pre
    refine pr_cong fun j h1 h2 => ?_
    show (if decide (0 < fnP (flipL n p) j) = true then T j else one) = if true = true then T j else one
    have := h.flip_.pm.rg j h1 (by omega)
    rw [if_pos (decide_eq_true (by omega)), if_pos rfl]
  rw [e3, suf_acT h.flip_.pm T (m := k) (by omega)] at e2
  have e4 : sK n (fnP (flipL n p)) T (n - k) = pr T (fun j => !decide (k < fnP p (n + 1 - j))) 1 n := pr_cong fun j h1 h2 => by
    show (if decide (n - k < fnP (flipL n p) j) = true then T j else one) = if (!decide (k < fnP p (n + 1 - j))) = true then T j else one
    have := h.pm.rg (n + 1 - j) (by omega) (by omega)
    have e : decide (n - k < fnP (flipL n p) j) = !decide (k < fnP p (n + 1 - j)) := by
      rw [fn_flip h h1 (by omega), ← decide_not]
      exact decide_eq_decide.2 (by omega)
    rw [e]
  show pr _ (fun j => decide (k < fnP p j)) 1 n = _
  rw [e1, e2, e4, assoc, mul_inv, mul_one]
/-- The other way round. -/
def dI (n : Nat) (T : Nat → Wd) : Nat → Wd := fun j => inv (suf n T (n + 1 - j)) * suf n T (n - j)
theorem dI_pre (T : Nat → Wd) : ∀ m, m ≤ n → pre (dI n T) m = suf n T (n - m)
  | 0, _ => by rw [Nat.sub_zero, suf_n]; rfl
  | m + 1, h => by
    rw [pre_step, dI_pre T m (by omega)]
    unfold dI
    rw [show n + 1 - (m + 1) = n - m by omega, mul_inv_c]
theorem del_dI (T : Nat → Wd) : EqT n (acT n (fnP (delL n)) (dI n T)) T := EqT.of_suf fun k hk => by
  rw [suf_acT (PL.del_ n).pm _ (m := n - k) (by omega), sK_del hk, dI_pre T _ (by omega), show n - (n - k) = k by omega]
theorem dI_del (T : Nat → Wd) : EqT n (dI n (acT n (fnP (delL n)) T)) T := fun j h1 h2 => by
  have e : ∀ k, k ≤ n → suf n (acT n (fnP (delL n)) T) k = pre T (n - k) := fun k hk => by rw [suf_acT (PL.del_ n).pm _ (m := n - k) (by omega), sK_del hk]
  unfold dI
  rw [e _ (by omega), e _ (by omega), show n - (n + 1 - j) = j - 1 by omega, show n - (n - j) = j - 1 + 1 by omega, pre_step, inv_mul_c, show j - 1 + 1 = j by omega]
theorem EqT.dI_ {T U : Nat → Wd} (h : EqT n T U) : EqT n (dI n T) (dI n U) := fun k _ _ => by unfold dI; rw [h.suf_, h.suf_]
theorem act_flipI (h : PL n p) (T : Nat → Wd) : EqT n (acT n (fnP (flipL n p)) (dI n T)) (dI n (acT n (fnP p) T)) := by
  have e1 := (act_flip h (dI n T)).dI_
  have e2 : EqT n (acT n (fnP p) (acT n (fnP (delL n)) (dI n T))) (acT n (fnP p) T) := (del_dI T).acT_
  exact ((dI_del _).symm.trans e1.symm).trans e2.dI_
/-- What the half turn but one letter does. -/
theorem act_neg {i : Nat} (h1 : 1 ≤ i) (h2 : i < n) (T : Nat → Wd) : EqT n (acT n (fnP (thenL (delL n) (i : Int))) (dI n T)) (stI T i) := by
  have hd := PL.del_ n
  have a1 : plL (delL n) (i : Int) = n + 1 - i := by have := hd.pl_of (j := n + 1 - i) (by omega) (by omega); rwa [delL_ga (by omega) (by omega), show (n : Int) + 1 - ((n + 1 - i : Nat) : Int) = i by omega] at this
  have a2 : plL (delL n) ((i : Int) + 1) = n - i := by have := hd.pl_of (j := n - i) (by omega) (by omega); rwa [delL_ga (by omega) (by omega), show (n : Int) + 1 - ((n - i : Nat) : Int) = i + 1 by omega] at this
  have hp := hd.then_ h1 h2
  have g := thenL_at hd h1 h2
  rw [a1, a2] at g
  have b1 : plL (thenL (delL n) (i : Int)) (i : Int) = n - i := by have := hp.pl_of (j := n - i) (by omega) (by omega); rwa [g, if_neg (by omega), if_pos rfl] at this
  have b2 : plL (thenL (delL n) (i : Int)) ((i : Int) + 1) = n + 1 - i := by have := hp.pl_of (j := n + 1 - i) (by omega) (by omega); rwa [g, if_pos rfl] at this
  have e := act_then hp h1 h2 (by rw [b1, b2]; omega) (dI n T)
  have g2 := thenL_at hp h1 h2
  rw [b1, b2] at g2
  have back : ∀ j, 1 ≤ j → j ≤ n → fnP (thenL (thenL (delL n) (i : Int)) (i : Int)) j = fnP (delL n) j := fun j j1 j2 => by
    unfold fnP
    rw [g2, g, delL_ga j1 j2]
    by_cases c1 : j = n - i
    · rw [if_pos c1]; omega
    · rw [if_neg c1]
      by_cases c2 : j = n + 1 - i
      · rw [if_pos c2]; omega
      · rw [if_neg c2, if_neg c2, if_neg c1]
  have f : EqT n T (stT (acT n (fnP (thenL (delL n) (i : Int))) (dI n T)) i) := ((del_dI T).symm.trans (acT_cong back _).symm).trans e
  have := f.stI_ h1 h2
  rw [stI_stT] at this
  exact this.symm
end
end Go.Proofs.Ytomcgmialkdcbaa
namespace Go.Proofs.Ytomcgmialkdcbaa
open Go.RowKit
open Wd
def invc : List Int → Nat
  | [] => 0
  | x :: r => (r.filter fun y => decide (y < x)).length + invc r
theorem invc_sw (a : List Int) {x y : Int} (h : y < x) (b : List Int) : invc (a ++ x :: y :: b) = invc (a ++ y :: x :: b) + 1 := by
  induction a with
  | nil =>
    show ((y :: b).filter fun z => decide (z < x)).length + ((b.filter fun z => decide (z < y)).length + invc b) = ((x :: b).filter fun z => decide (z < y)).length + ((b.filter fun z => decide (z < x)).length + invc b) + 1
    rw [List.filter_cons_of_pos (by simpa using h), List.filter_cons_of_neg (by simp; omega), List.length_cons]
    omega
  | cons z a ih =>
    show ((a ++ x :: y :: b).filter fun w => decide (w < z)).length + invc (a ++ x :: y :: b) = ((a ++ y :: x :: b).filter fun w => decide (w < z)).length + invc (a ++ y :: x :: b) + 1
    rw [ih]
    have hp : (a ++ x :: y :: b).Perm (a ++ y :: x :: b) := (List.perm_append_left_iff a).2 (List.Perm.swap _ _ _)
    rw [(hp.filter fun w => decide (w < z)).length_eq]
    omega
theorem invc_le : ∀ l : List Int, 2 * invc l ≤ l.length * (l.length - 1)
  | [] => Nat.le_refl _
  | x :: r => by
    have ih := invc_le r
    have h1 := List.length_filter_le (fun y => decide (y < x)) r
    show 2 * ((r.filter fun y => decide (y < x)).length + invc r) ≤ (r.length + 1) * r.length
    rw [Nat.add_mul, Nat.one_mul]
    cases hr : r.length with
    | zero => rw [hr] at ih h1; omega
    | succ m =>
      rw [hr] at ih h1
      have e : (m + 1) * (m + 1 - 1) = (m + 1) * m := rfl
      have e2 : (m + 1) * (m + 1) = (m + 1) * m + (m + 1) := by rw [Nat.mul_add, Nat.mul_one]
      omega
theorem invc_max : ∀ {l : List Int}, 2 * invc l = l.length * (l.length - 1) → l.Pairwise fun x y => y < x
  | [], _ => List.Pairwise.nil
  | x :: r, h => by
    have ih := invc_le r
    have h1 := List.length_filter_le (fun y => decide (y < x)) r
    have h2 : 2 * ((r.filter fun y => decide (y < x)).length + invc r) = (r.length + 1) * r.length := h
    rw [Nat.add_mul, Nat.one_mul] at h2
    have key : (r.filter fun y => decide (y < x)).length = r.length ∧ 2 * invc r = r.length * (r.length - 1) := by
      cases hr : r.length with
      | zero => rw [hr] at ih h1 h2; omega
      | succ m =>
        rw [hr] at ih h1 h2
        have e : (m + 1) * (m + 1 - 1) = (m + 1) * m := rfl
        have e2 : (m + 1) * (m + 1) = (m + 1) * m + (m + 1) := by rw [Nat.mul_add, Nat.mul_one]
        omega
    refine List.pairwise_cons.2 ⟨fun y hy => ?_, invc_max key.2⟩
    have := List.length_filter_eq_length_iff.1 key.1 y hy
    simpa using this
theorem invc_dec : ∀ {l : List Int}, (l.Pairwise fun x y => y < x) → 2 * invc l = l.length * (l.length - 1)
  | [], _ => rfl
  | x :: r, h => by
    obtain ⟨h1, h2⟩ := List.pairwise_cons.1 h
    have ih := invc_dec h2
    have e1 : r.filter (fun y => decide (y < x)) = r := List.filter_eq_self.2 fun y hy => by simpa using h1 y hy
    show 2 * ((r.filter fun y => decide (y < x)).length + invc r) = (r.length + 1) * r.length
    rw [e1, Nat.add_mul, Nat.one_mul]
    cases hr : r.length with
    | zero => rw [hr] at ih; omega
    | succ m =>
      rw [hr] at ih
      have e : (m + 1) * (m + 1 - 1) = (m + 1) * m := rfl
      have e2 : (m + 1) * (m + 1) = (m + 1) * m + (m + 1) := by rw [Nat.mul_add, Nat.mul_one]
      omega
theorem invc_inc : ∀ {l : List Int}, (l.Pairwise fun x y => x < y) → invc l = 0
  | [], _ => rfl
  | x :: r, h => by
    obtain ⟨h1, h2⟩ := List.pairwise_cons.1 h
    have e1 : r.filter (fun y => decide (y < x)) = [] := List.filter_eq_nil_iff.2 fun y hy => by have := h1 y hy; simp; omega
    show (r.filter fun y => decide (y < x)).length + invc r = 0
    rw [e1, invc_inc h2]; rfl
theorem swL_split {q : List Int} {i : Nat} (h : i + 1 < q.length) : ∃ a b, a.length = i ∧ q = a ++ ga q i :: ga q (i + 1) :: b ∧ swL q i = a ++ ga q (i + 1) :: ga q i :: b := by
  have e : q = q.take i ++ ga q i :: ga q (i + 1) :: q.drop (i + 2) := by
    rw [ga_eq (show i < q.length by omega), ga_eq h, ← List.drop_eq_getElem_cons h, ← List.drop_eq_getElem_cons (show i < q.length by omega), List.take_append_drop]
  refine ⟨q.take i, q.drop (i + 2), by rw [List.length_take]; omega, e, ?_⟩
  have hl : (q.take i).length = i := by rw [List.length_take]; omega
  refine ga_ext (by rw [swL_len]; conv => lhs; rw [e]; 
                    simp) fun j hj => ?_
  rw [swL_len] at hj
  rw [swL_at h]
  by_cases c1 : j < i
  · rw [if_neg (by omega), if_neg (by omega), ga_append_left _ _ _ (by omega), ga_take _ _ _ c1]
  · rw [ga_append_right _ _ _ (by omega), hl]
    by_cases c2 : j = i
    · rw [if_pos c2, c2, Nat.sub_self]; rfl
    · rw [if_neg c2]
      by_cases c3 : j = i + 1
      · rw [if_pos c3, c3, show i + 1 - i = 1 by omega]; rfl
      · rw [if_neg c3, show j - i = (j - (i + 2)) + 2 by omega]
        show ga q j = ga (q.drop (i + 2)) (j - (i + 2))
        unfold ga
        rw [List.getD_eq_getElem?_getD, List.getD_eq_getElem?_getD, List.getElem?_drop, show i + 2 + (j - (i + 2)) = j by omega]
theorem invc_swL {q : List Int} {i : Nat} (h : i + 1 < q.length) (hd : ga q (i + 1) < ga q i) : invc q = invc (swL q i) + 1 := by
  obtain ⟨a, b, _, e1, e2⟩ := swL_split h
  rw [e2]
  conv => lhs; rw [e1]
  exact invc_sw a hd b
def stL (T : Nat → Wd) (x : Int) : Nat → Wd := if 0 < x then stT T x.toNat else stI T (-x).toNat
def stW (T : Nat → Wd) (w : List Int) : Nat → Wd := w.foldl stL T
theorem stW_snoc (T : Nat → Wd) (w : List Int) (x : Int) : stW T (w ++ [x]) = stL (stW T w) x := by unfold stW; rw [List.foldl_append]; rfl
theorem stW_app (T : Nat → Wd) (u w : List Int) : stW T (u ++ w) = stW (stW T u) w := by unfold stW; rw [List.foldl_append]
theorem stL_pos (T : Nat → Wd) (i : Nat) : stL T ((i : Int) + 1) = stT T (i + 1) := by
  unfold stL; rw [if_pos (by omega), show ((i : Int) + 1).toNat = i + 1 by omega]
def okW (n : Nat) (w : List Int) : Prop := ∀ x ∈ w, 1 ≤ max x (-x) ∧ max x (-x) < n
theorem EqT.stL_ {n : Nat} {T U : Nat → Wd} (h : EqT n T U) {x : Int} (hx : 1 ≤ max x (-x) ∧ max x (-x) < n) : EqT n (stL T x) (stL U x) := by
  unfold stL
  split
  · exact h.stT_ (by omega) (by omega)
  · exact h.stI_ (by omega) (by omega)
theorem EqT.stW_ {n : Nat} : ∀ {w : List Int} {T U : Nat → Wd}, EqT n T U → okW n w → EqT n (stW T w) (stW U w)
  | [], _, _, h, _ => h
  | x :: w, T, U, h, hw => EqT.stW_ (w := w) (h.stL_ (hw x (List.mem_cons_self ..))) fun y hy => hw y (List.mem_cons_of_mem _ hy)
/-- A word is undone by its reciprocal. -/
theorem stL_neg (T : Nat → Wd) {x : Int} (hx : x ≠ 0) : stL (stL T x) (-x) = T := by
  unfold stL
  by_cases h : 0 < x
  · rw [if_pos h, if_neg (by omega), show (- -x) = x by omega, stI_stT]
  · rw [if_neg h, if_pos (by omega), stT_stI]
theorem stW_inv {n : Nat} : ∀ {w : List Int} (T : Nat → Wd), okW n w → stW (stW T w) (invW w) = T
  | [], T, _ => rfl
  | x :: w, T, hw => by
    have e : invW (x :: w) = invW w ++ [-x] := by unfold invW; simp
    have hx := hw x (List.mem_cons_self ..)
    show stW (stW (stL T x) w) (invW (x :: w)) = T
    rw [e, stW_snoc, stW_inv (n := n) _ fun y hy => hw y (List.mem_cons_of_mem _ hy), stL_neg _ (by omega)]
def bbS (s : List Int × List Int) (i : Nat) : List Int × List Int := if ga s.1 (i + 1) < ga s.1 i then (swL s.1 i, s.2 ++ [(i : Int) + 1]) else s
def bbR (s : List Int × List Int) (k : Nat) : List Int × List Int := (List.range k).foldl bbS s
theorem bbR_go (s : List Int × List Int) (k : Nat) : bbR s (k + 1) = bbS (bbR s k) k := by unfold bbR; rw [List.range_succ, List.foldl_append]; rfl
def bbP (p : List Int) : Nat → List Int × List Int
  | 0 => (p, [])
  | j + 1 => bbR (bbP p j) (p.length - 1)
def pmW (p : List Int) : List Int := (bbP p p.length).2
/-- Neighbours in the wrong order change places, letter by letter. -/
inductive Srn (n : Nat) (p : List Int) : List Int → List Int → Prop
  | nil : Srn n p [] p
  | snoc {w q : List Int} {i : Nat} : Srn n p w q → i + 1 < n → ga q (i + 1) < ga q i → Srn n p (w ++ [(i : Int) + 1]) (swL q i)
section
variable {n : Nat} {p q : List Int}
theorem cons_sw (q : List Int) (i : Nat) : swL (0 :: q) (i + 1) = 0 :: swL q i := rfl
theorem PL.cons_sw_ (h : PL n (0 :: q)) {i : Nat} (hi : i + 1 < n) : PL n (0 :: swL q i) := by rw [← cons_sw]; exact h.sw_ (by omega) (by omega)
theorem Srn.pl {w : List Int} (r : Srn n p w q) (h : PL n (0 :: p)) : PL n (0 :: q) := by
  induction r with
  | nil => exact h
  | snoc _ hi _ ih => exact ih.cons_sw_ hi
theorem Srn.len {w : List Int} (r : Srn n p w q) (h : PL n (0 :: p)) : q.length = n := by have := (r.pl h).len; simpa using this
theorem Srn.ok {w : List Int} (r : Srn n p w q) : okW n w := by
  induction r with
  | nil => intro x hx; simp at hx
  | snoc _ hi _ ih =>
    intro x hx
    rcases List.mem_append.1 hx with hx | hx
    · exact ih x hx
    · rw [List.mem_singleton] at hx; subst hx; omega
theorem Srn.act {w : List Int} (r : Srn n p w q) (h : PL n (0 :: p)) (T : Nat → Wd) : EqT n (acT n (fnP (0 :: q)) (stW T w)) (acT n (fnP (0 :: p)) T) := by
  induction r with
  | nil => exact EqT.refl _ _
  | @snoc w q i r hi hd ih =>
    have hq := r.pl h
    have e := act_sw hq (i := i + 1) (by omega) (by omega) hd (stW T w)
    rw [cons_sw] at e
    rw [stW_snoc, stL_pos]
    exact e.trans ih
theorem Srn.cnt {w : List Int} (r : Srn n p w q) (h : PL n (0 :: p)) : w.length + invc q = invc p := by
  induction r with
  | nil => simp
  | @snoc w q i r hi hd ih =>
    have := invc_swL (by rw [r.len h]; exact hi) hd
    rw [List.length_append, List.length_singleton]
    omega
theorem Srn.empty {w : List Int} (r : Srn n p w q) (hw : w = []) : q = p := by
  cases r with
  | nil => rfl
  | snoc r hi hd => simp at hw
/-- What sorting reaches. -/
def Top (n j : Nat) (q : List Int) : Prop := ∀ i, n - j ≤ i → i < n → ga q i = (i : Int) + 1
def Mx (k : Nat) (q : List Int) : Prop := ∀ i, i ≤ k → ga q i ≤ ga q k
theorem top_mx (h : PL n (0 :: q)) {j : Nat} (hj : j < n) (ht : Top n j q) (hm : Mx (n - 1 - j) q) : ga q (n - 1 - j) = ((n - j : Nat) : Int) := by
  obtain ⟨i0, a, b, e⟩ := h.sj (n - j) (by omega) (by omega)
  have e0 : ∀ i, ga (0 :: q) (i + 1) = ga q i := fun i => rfl
  obtain ⟨i1, rfl⟩ : ∃ i1, i0 = i1 + 1 := ⟨i0 - 1, by omega⟩
  rw [e0] at e
  have h1 : i1 ≤ n - 1 - j := by
    rcases Nat.lt_or_ge (n - 1 - j) i1 with c | c
    · have := ht i1 (by omega) (by omega); omega
    · exact c
  have h2 := hm i1 h1
  have h3 := h.rg (n - 1 - j + 1) (by omega) (by omega)
  rw [e0] at h3
  rcases Int.lt_or_le ((n - j : Nat) : Int) (ga q (n - 1 - j)) with c | c
  · have h4 := ht ((ga q (n - 1 - j)).toNat - 1) (by omega) (by omega)
    have h5 := h.ij ((ga q (n - 1 - j)).toNat - 1 + 1) (n - 1 - j + 1) (by omega) (by omega) (by omega) (by omega) (by rw [e0, e0, h4]; omega)
    omega
  · omega
theorem bb_step {w : List Int} (h : PL n (0 :: p)) (r : Srn n p w q) {i : Nat} (hi : i + 1 < n) : ∃ w' q', bbS (q, w) i = (q', w') ∧ Srn n p w' q' ∧ ((ga q (i + 1) < ga q i ∧ q' = swL q i) ∨ (¬ ga q (i + 1) < ga q i ∧ q' = q)) := by
  unfold bbS
  by_cases c : ga q (i + 1) < ga q i
  · exact ⟨_, _, if_pos c, r.snoc hi c, .inl ⟨c, rfl⟩⟩
  · exact ⟨_, _, if_neg c, r, .inr ⟨c, rfl⟩⟩
theorem bb_round {w : List Int} (h : PL n (0 :: p)) (r : Srn n p w q) {j : Nat} (hj : j < n) (ht : Top n j q) : ∀ k, k ≤ n - 1 → ∃ w' q', bbR (q, w) k = (q', w') ∧ Srn n p w' q' ∧ Top n j q' ∧ (k ≤ n - 1 - j → Mx k q') ∧ (n - 1 - j ≤ k → Top n (j + 1) q')
  | 0, _ => ⟨w, q, rfl, r, ht, fun _ i hi => by rw [show i = 0 by omega]; exact Int.le_refl _, fun h0 => by
    intro i i1 i2
    by_cases c : n - j ≤ i
    · exact ht i c i2
    · have hm : Mx (n - 1 - j) q := fun x hx => by rw [show x = n - 1 - j by omega]; exact Int.le_refl _
      have := top_mx (r.pl h) hj ht hm
      rw [show i = n - 1 - j by omega, this]; omega⟩
  | k + 1, hk => by
    obtain ⟨w1, q1, e1, r1, t1, m1, u1⟩ := bb_round h r hj ht k (by omega)
    obtain ⟨w2, q2, e2, r2, c2⟩ := bb_step h r1 (i := k) (by omega)
    have hl := r1.len h
    refine ⟨w2, q2, by rw [bbR_go, e1, e2], r2, ?_⟩
    by_cases ck : k < n - 1 - j
    · have hm := m1 (by omega)
      have top2 : Top n j q2 := by
        intro i i1 i2
        rcases c2 with ⟨_, rfl⟩ | ⟨_, rfl⟩
        · rw [swL_at (by omega), if_neg (by omega), if_neg (by omega)]; exact t1 i i1 i2
        · exact t1 i i1 i2
      have mx2 : Mx (k + 1) q2 := by
        intro i hi
        rcases c2 with ⟨c, rfl⟩ | ⟨c, rfl⟩
        · rw [swL_at (by omega), swL_at (by omega), if_neg (show ¬ k + 1 = k by omega), if_pos rfl]
          by_cases x : i = k
          · rw [if_pos x]; omega
          · rw [if_neg x]
            by_cases y : i = k + 1
            · rw [if_pos y]; exact Int.le_refl _
            · rw [if_neg y]; exact hm i (by omega)
        · by_cases y : i = k + 1
          · rw [y]; exact Int.le_refl _
          · have := hm i (by omega); omega
      refine ⟨top2, fun _ => mx2, fun h0 i i1 i2 => ?_⟩
      by_cases c : n - j ≤ i
      · exact top2 i c i2
      · have h5 := top_mx (r2.pl h) hj top2 (by rw [show n - 1 - j = k + 1 by omega]; exact mx2)
        rw [show i = n - 1 - j by omega, h5]; omega
    · have hu := u1 (by omega)
      have a := hu k (by omega) (by omega)
      have b := hu (k + 1) (by omega) (by omega)
      rcases c2 with ⟨c, _⟩ | ⟨_, rfl⟩
      · omega
      · exact ⟨t1, fun _ => by omega, fun _ => hu⟩
theorem bb_passes (h : PL n (0 :: p)) : ∀ j, j ≤ n → ∃ w q, bbP p j = (q, w) ∧ Srn n p w q ∧ Top n j q
  | 0, _ => ⟨[], p, rfl, .nil, fun i h1 h2 => by omega⟩
  | j + 1, hj => by
    have hl : p.length = n := by have := h.len; simpa using this
    obtain ⟨w, q, e, r, t⟩ := bb_passes h j (by omega)
    obtain ⟨w2, q2, e2, r2, _, _, u⟩ := bb_round h r (show j < n by omega) t (n - 1) (Nat.le_refl _)
    exact ⟨w2, q2, by rw [bbP, hl, e, e2], r2, u (by omega)⟩
theorem top_id (h : Top n n q) (hl : q.length = n) : q = (idL n).drop 1 := ga_ext (by rw [List.length_drop, idL_len, hl]; omega) fun i hi => by
  have e : ga ((idL n).drop 1) i = ga (idL n) (i + 1) := by unfold ga; rw [List.getD_eq_getElem?_getD, List.getD_eq_getElem?_getD, List.getElem?_drop, Nat.add_comm]
  rw [e, idL_ga (by omega), h i (by omega) (by omega)]; omega
theorem id_cons (n : Nat) : 0 :: (idL n).drop 1 = idL n := by
  have := List.drop_eq_getElem_cons (l := idL n) (i := 0) (by rw [idL_len]; omega)
  rw [List.drop_zero] at this
  conv => rhs; rw [this]
  rw [← ga_eq (by rw [idL_len]; omega), idL_ga (Nat.zero_le _)]
  rfl
/-- A permutation's word. -/
theorem pmW_run (h : PL n (0 :: p)) : Srn n p (pmW p) ((idL n).drop 1) := by
  have hl : p.length = n := by have := h.len; simpa using this
  obtain ⟨w, q, e, r, t⟩ := bb_passes h n (Nat.le_refl _)
  have e2 : pmW p = w := by unfold pmW; rw [hl, e]
  rw [e2, ← top_id t (r.len h)]
  exact r
theorem id_act (n : Nat) (T : Nat → Wd) : EqT n (acT n (fnP (idL n)) T) T := (acT_cong (fun j h1 h2 => by unfold fnP; rw [idL_ga h2]; show ((j : Int)).toNat = j; omega) T).trans (acT_id n T)
theorem pmW_act (h : PL n (0 :: p)) (T : Nat → Wd) : EqT n (stW T (pmW p)) (acT n (fnP (0 :: p)) T) := by
  have := (pmW_run h).act h T
  rw [id_cons] at this
  exact (id_act n _).symm.trans this
theorem id_inc (n : Nat) : ((idL n).drop 1).Pairwise fun x y => x < y := by
  refine List.Pairwise.drop ?_
  unfold idL
  rw [List.pairwise_map]
  exact List.pairwise_lt_range.imp fun h => by omega
theorem pmW_len (h : PL n (0 :: p)) : (pmW p).length = invc p := by
  have := (pmW_run h).cnt h
  rw [invc_inc (id_inc n)] at this
  omega
theorem pmW_nil (h : PL n (0 :: p)) (e : pmW p = []) : 0 :: p = idL n := by rw [← id_cons, (pmW_run h).empty e]
theorem del_cons (n : Nat) : 0 :: (delL n).drop 1 = delL n := by
  have hl : (delL n).length = n + 1 := mkP_len _ _
  have := List.drop_eq_getElem_cons (l := delL n) (i := 0) (by rw [hl]; omega)
  rw [List.drop_zero] at this
  conv => rhs; rw [this]
  rw [← ga_eq (by rw [hl]; omega), show ga (delL n) 0 = 0 from mkP_z _ _]
theorem drop1_ga (xs : List Int) (i : Nat) : ga (xs.drop 1) i = ga xs (i + 1) := by unfold ga; rw [List.getD_eq_getElem?_getD, List.getD_eq_getElem?_getD, List.getElem?_drop, Nat.add_comm]
theorem pw_ga {xs : List Int} {R : Int → Int → Prop} : xs.Pairwise R ↔ ∀ i j, i < j → j < xs.length → R (ga xs i) (ga xs j) := by
  rw [List.pairwise_iff_getElem]
  constructor
  · intro h i j hij hj; rw [ga_eq hj, ga_eq (by omega)]; exact h i j (by omega) hj hij
  · intro h i j hi hj hij; rw [← ga_eq hj, ← ga_eq hi]; exact h i j hij hj
theorem del_dec (n : Nat) : ((delL n).drop 1).Pairwise fun x y => y < x := pw_ga.2 fun i j hij hj => by
  rw [List.length_drop, show (delL n).length = n + 1 from mkP_len _ _] at hj
  rw [drop1_ga, drop1_ga, delL_ga (by omega) (by omega), delL_ga (by omega) (by omega)]; omega
theorem dec_del (h : PL n (0 :: p)) (hd : p.Pairwise fun x y => y < x) : 0 :: p = delL n := by
  have hl : p.length = n := by have := h.len; simpa using this
  have e0 : ∀ i, ga (0 :: p) (i + 1) = ga p i := fun i => rfl
  have g := pw_ga.1 hd
  have up : ∀ i, i < n → ga p i ≤ (n : Int) - i := by
    intro i
    induction i with
    | zero => intro hi; have := (h.rg 1 (by omega) (by omega)).2; rw [e0] at this; omega
    | succ i ih => intro hi; have := ih (by omega); have := g i (i + 1) (by omega) (by omega); omega
  have dn : ∀ m, m < n → (m : Int) + 1 ≤ ga p (n - 1 - m) := by
    intro m
    induction m with
    | zero => intro hm; have := (h.rg (n - 1 + 1) (by omega) (by omega)).1; rw [e0] at this; rw [Nat.sub_zero]; omega
    | succ m ih => intro hm; have := ih (by omega); have := g (n - 1 - (m + 1)) (n - 1 - m) (by omega) (by omega); omega
  refine ga_ext (by rw [h.len, show (delL n).length = n + 1 from mkP_len _ _]) fun i hi => ?_
  rw [h.len] at hi
  by_cases i0 : i = 0
  · subst i0; rw [h.z, show ga (delL n) 0 = 0 from mkP_z _ _]
  · obtain ⟨i, rfl⟩ : ∃ k, i = k + 1 := ⟨i - 1, by omega⟩
    rw [e0, delL_ga (by omega) (by omega)]
    have a := up i (by omega)
    have b := dn (n - 1 - i) (by omega)
    rw [show n - 1 - (n - 1 - i) = i by omega] at b
    omega
/-- Only the half turn has as many letters as the half turn. -/
theorem pmW_full (h : PL n (0 :: p)) (e : (pmW p).length = (pmW ((delL n).drop 1)).length) : 0 :: p = delL n := by
  have hd : PL n (0 :: (delL n).drop 1) := by rw [del_cons]; exact PL.del_ n
  rw [pmW_len h, pmW_len hd] at e
  have e1 := invc_dec (del_dec n)
  have l1 : p.length = n := by have := h.len; simpa using this
  have l2 : ((delL n).drop 1).length = n := by have := hd.len; simpa using this
  rw [l2, ← e] at e1
  exact dec_del h (invc_max (by rw [l1]; exact e1))
end
end Go.Proofs.Ytomcgmialkdcbaa
namespace Go.Proofs.Ytomcgmialkdcbaa
open Go.RowKit
open Wd
section
variable {n : Nat}
def acL (n : Nat) (l : List (List Int)) (T : Nat → Wd) : Nat → Wd := l.foldl (fun T p => acT n (fnP p) T) T
theorem acL_app (l m : List (List Int)) (T : Nat → Wd) : acL n (l ++ m) T = acL n m (acL n l T) := by unfold acL; rw [List.foldl_append]
theorem EqT.acL_ : ∀ {l : List (List Int)} {T U : Nat → Wd}, EqT n T U → EqT n (acL n l T) (acL n l U)
  | [], _, _, h => h
  | p :: l, T, U, h => EqT.acL_ (l := l) (h.acT_ (p := fnP p))
def itT (f : (Nat → Wd) → Nat → Wd) : Nat → (Nat → Wd) → Nat → Wd
  | 0, T => T
  | m + 1, T => f (itT f m T)
/-- A power of the half turn. -/
def dP (n : Nat) (z : Int) (T : Nat → Wd) : Nat → Wd := if 0 ≤ z then itT (acT n (fnP (delL n))) z.toNat T else itT (dI n) (-z).toNat T
theorem dP_dec (z : Int) (T : Nat → Wd) : EqT n (dP n (z - 1) T) (dI n (dP n z T)) := by
  unfold dP
  by_cases h : 0 < z
  · rw [if_pos (by omega), if_pos (by omega), show z.toNat = (z - 1).toNat + 1 by omega]
    exact (dI_del _).symm
  · rw [if_neg (by omega), show (-(z - 1)).toNat = (-z).toNat + 1 by omega]
    by_cases h0 : z = 0
    · subst h0; exact EqT.refl _ _
    · rw [if_neg (by omega)]; exact EqT.refl _ _
theorem dP_inc (z : Int) (T : Nat → Wd) : EqT n (dP n (z + 1) T) (acT n (fnP (delL n)) (dP n z T)) := by
  have h := dP_dec (n := n) (z + 1) T
  rw [show z + 1 - 1 = z by omega] at h
  exact ((del_dI _).symm).trans h.symm.acT_
/-- The letters themselves. -/
def tb0 : Nat → Wd := fun k => ⟨[(k : Int)], fun i hi => by simp at hi⟩
structure NfI (n : Nat) (w : List Int) (z : Int) (l : List (List Int)) : Prop where
  pl : ∀ p ∈ l, PL n p
  act : EqT n (acL n l (dP n z tb0)) (stW tb0 w)
variable {w : List Int} {z : Int} {l : List (List Int)}
theorem NfI.nil_ : NfI n [] 0 [] := ⟨fun p hp => by simp at hp, EqT.refl _ _⟩
theorem NfI.pos (h : NfI n w z l) {i : Nat} (h1 : 1 ≤ i) (h2 : i < n) : NfI n (w ++ [(i : Int)]) z (l ++ [thenL (idL n) (i : Int)]) := by
  have hid := PL.id_ n
  refine ⟨fun p hp => ?_, ?_⟩
  · rcases List.mem_append.1 hp with hp | hp
    · exact h.pl p hp
    · rw [List.mem_singleton.1 hp]; exact hid.then_ h1 h2
  · have a := hid.pl_of (j := i) h1 (by omega)
    have b := hid.pl_of (j := i + 1) (by omega) h2
    rw [idL_ga (by omega)] at a b
    have e := act_then hid h1 h2 (by rw [a, show (i : Int) + 1 = ((i + 1 : Nat) : Int) by omega, b]; omega) (acL n l (dP n z tb0))
    rw [acL_app, stW_snoc]
    have e2 : stL (stW tb0 w) (i : Int) = stT (stW tb0 w) i := by unfold stL; rw [if_pos (by omega)]; rfl
    rw [e2]
    exact e.trans (((id_act n _).trans h.act).stT_ h1 h2)
theorem acL_flip : ∀ {l : List (List Int)} (T : Nat → Wd), (∀ p ∈ l, PL n p) → EqT n (acL n (l.map (flipL n)) (dI n T)) (dI n (acL n l T))
  | [], T, _ => EqT.refl _ _
  | p :: l, T, h => by
    have hp := act_flipI (h p (List.mem_cons_self ..)) T
    show EqT n (acL n (l.map (flipL n)) (acT n (fnP (flipL n p)) (dI n T))) (dI n (acL n l (acT n (fnP p) T)))
    exact (hp.acL_).trans (acL_flip _ fun q hq => h q (List.mem_cons_of_mem _ hq))
theorem NfI.neg (h : NfI n w z l) {i : Nat} (h1 : 1 ≤ i) (h2 : i < n) : NfI n (w ++ [-(i : Int)]) (z - 1) (l.map (flipL n) ++ [thenL (delL n) (i : Int)]) := by
  refine ⟨fun p hp => ?_, ?_⟩
  · rcases List.mem_append.1 hp with hp | hp
    · obtain ⟨q, hq, rfl⟩ := List.mem_map.1 hp
      exact (h.pl q hq).flip_
    · rw [List.mem_singleton.1 hp]; exact (PL.del_ n).then_ h1 h2
  · rw [acL_app, stW_snoc]
    have e2 : stL (stW tb0 w) (-(i : Int)) = stI (stW tb0 w) i := by unfold stL; rw [if_neg (by omega), show (- -(i : Int)).toNat = i by omega]
    rw [e2]
    have a : EqT n (acL n (l.map (flipL n)) (dP n (z - 1) tb0)) (dI n (acL n l (dP n z tb0))) := ((dP_dec z tb0).acL_).trans (acL_flip _ h.pl)
    exact ((a.acT_).trans (act_neg h1 h2 _)).trans (h.act.stI_ h1 h2)
theorem two_split {k : Nat} (h : k + 1 < l.length) (p q : List Int) : ∃ a b, a.length = k ∧ l = a ++ ga l k :: ga l (k + 1) :: b ∧ (l.set k p).set (k + 1) q = a ++ p :: q :: b := by
  have e : l = l.take k ++ ga l k :: ga l (k + 1) :: l.drop (k + 2) := by
    rw [ga_eq (show k < l.length by omega), ga_eq h, ← List.drop_eq_getElem_cons h, ← List.drop_eq_getElem_cons (show k < l.length by omega), List.take_append_drop]
  have hl : (l.take k).length = k := by rw [List.length_take]; omega
  refine ⟨l.take k, l.drop (k + 2), hl, e, ?_⟩
  generalize ha : l.take k = a at e hl
  generalize hb : l.drop (k + 2) = b at e
  rw [e, ← hl]
  rw [List.set_append_right _ _ (by omega), Nat.sub_self, List.set_cons_zero, List.set_append_right _ _ (by omega), show a.length + 1 - a.length = 1 by omega]
  rfl
theorem NfI.shift (h : NfI n w z l) {k i : Nat} (hk : k + 1 < l.length) (h1 : 1 ≤ i) (h2 : i < n) (st : ga (ga l (k + 1)) (i + 1) < ga (ga l (k + 1)) i) (en : plL (ga l k) (i : Int) < plL (ga l k) ((i : Int) + 1)) : NfI n w z ((l.set k (thenL (ga l k) (i : Int))).set (k + 1) (swL (ga l (k + 1)) i)) := by
  obtain ⟨a, b, _, e1, e2⟩ := two_split hk (thenL (ga l k) (i : Int)) (swL (ga l (k + 1)) i)
  have hp := h.pl _ (ga_mem (show k < l.length by omega))
  have hq := h.pl _ (ga_mem hk)
  rw [e2]
  refine ⟨fun p hpm => ?_, ?_⟩
  · have old : ∀ x ∈ a ++ ga l k :: ga l (k + 1) :: b, PL n x := fun x hx => h.pl x (by rw [e1]; exact hx)
    simp only [List.mem_append, List.mem_cons] at hpm
    rcases hpm with hpm | rfl | rfl | hpm
    · exact old p (by simp [hpm])
    · exact hp.then_ h1 h2
    · exact hq.sw_ h1 h2
    · exact old p (by simp [hpm])
  · have ha := h.act
    rw [e1, acL_app] at ha
    rw [acL_app]
    refine EqT.trans ?_ ha
    show EqT n (acL n b (acT n (fnP (swL (ga l (k + 1)) i)) (acT n (fnP (thenL (ga l k) (i : Int))) _))) (acL n b (acT n (fnP (ga l (k + 1))) (acT n (fnP (ga l k)) _)))
    exact (((act_then hp h1 h2 en _).acT_).trans (act_sw hq h1 h2 st _)).acL_
theorem NfI.filt (h : NfI n w z l) : NfI n w z (l.filter fun p => decide (p ≠ idL n)) := by
  refine ⟨fun p hp => h.pl p (List.mem_filter.1 hp).1, EqT.trans ?_ h.act⟩
  have key : ∀ (l : List (List Int)) (T : Nat → Wd), EqT n (acL n (l.filter fun p => decide (p ≠ idL n)) T) (acL n l T) := by
    intro l
    induction l with
    | nil => intro T; exact EqT.refl _ _
    | cons p l ih =>
      intro T
      by_cases c : p = idL n
      · rw [List.filter_cons_of_neg (by simpa using c)]
        show EqT n _ (acL n l (acT n (fnP p) T))
        rw [c]
        exact (ih T).trans (id_act n T).symm.acL_
      · rw [List.filter_cons_of_pos (by simpa using c)]
        exact ih _
  exact key l _
theorem NfI.del (h : NfI n w z (delL n :: l)) : NfI n w (z + 1) l := ⟨fun p hp => h.pl p (List.mem_cons_of_mem _ hp), ((dP_inc z tb0).acL_).trans h.act⟩
def LW (n : Nat) (p q : List Int) : Prop := ∀ i : Nat, 1 ≤ i → i < n → ga q (i + 1) < ga q i → plL p ((i : Int) + 1) < plL p (i : Int)
def Stb (n : Nat) (l : List (List Int)) : Prop := ∀ k, k + 1 < l.length → LW n (ga l k) (ga l (k + 1))
theorem PL.ext {p q : List Int} (h : PL n p) (k : PL n q) (e : ∀ j, 1 ≤ j → j ≤ n → ga p j = ga q j) : p = q := ga_ext (by rw [h.len, k.len]) fun i hi => by
  rw [h.len] at hi
  by_cases c : i = 0
  · subst c; rw [h.z, k.z]
  · exact e i (by omega) (by omega)
theorem inc_id {f : Nat → Int} (hr : ∀ j, 1 ≤ j → j ≤ n → 1 ≤ f j ∧ f j ≤ n) (hi : ∀ i, 1 ≤ i → i < n → f i < f (i + 1)) : ∀ j, 1 ≤ j → j ≤ n → f j = (j : Int) := by
  have lo : ∀ j, 1 ≤ j → j ≤ n → (j : Int) ≤ f j := by
    intro j
    induction j with
    | zero => intro h; omega
    | succ j ih =>
      intro _ h2
      by_cases c : j = 0
      · subst c; have := hr 1 (by omega) h2; exact this.1
      · have := ih (by omega) (by omega); have := hi j (by omega) (by omega); omega
  have up : ∀ m j, 1 ≤ j → j + m = n → f j ≤ (j : Int) := by
    intro m
    induction m with
    | zero => intro j h1 e; have := (hr j h1 (by omega)).2; omega
    | succ m ih => intro j h1 e; have := ih (j + 1) (by omega) (by omega); have := hi j h1 (by omega); omega
  intro j h1 h2
  have := lo j h1 h2
  have := up (n - j) j h1 (by omega)
  omega
theorem lw_id {q : List Int} (hq : PL n q) (h : LW n (idL n) q) : q = idL n := by
  have hid := PL.id_ n
  have pid : ∀ i, 1 ≤ i → i ≤ n → plL (idL n) (i : Int) = i := fun i h1 h2 => by have := hid.pl_of h1 h2; rwa [idL_ga h2] at this
  refine hq.ext hid fun j h1 h2 => ?_
  rw [idL_ga h2]
  refine inc_id (f := fun j => ga q j) (fun j a b => hq.rg j a b) (fun i a b => ?_) j h1 h2
  have hne : ga q i ≠ ga q (i + 1) := fun e => by have := hq.ij i (i + 1) a (by omega) (by omega) (by omega) e; omega
  by_cases c : ga q (i + 1) < ga q i
  · have := h i a b c
    rw [pid i a (by omega), show (i : Int) + 1 = ((i + 1 : Nat) : Int) by omega, pid (i + 1) (by omega) (by omega)] at this
    omega
  · show ga q i < ga q (i + 1)
    omega
theorem lw_del {p : List Int} (hp : PL n p) (h : LW n p (delL n)) : p = delL n := by
  have hd := PL.del_ n
  have g : ∀ v, 1 ≤ v → v ≤ n → ((plL p ((n + 1 - v : Nat) : Int) : Nat) : Int) = (v : Int) := inc_id (f := fun v => ((plL p ((n + 1 - v : Nat) : Int) : Nat) : Int)) (fun v a b => by
    have := hp.pl (i := n + 1 - v) (by omega) (by omega); omega) (fun i a b => by
    have := h (n - i) (by omega) (by omega) (by rw [delL_ga (by omega) (by omega), delL_ga (by omega) (by omega)]; omega)
    rw [show n + 1 - i = n - i + 1 by omega, show n + 1 - (i + 1) = n - i by omega, show ((n - i + 1 : Nat) : Int) = ((n - i : Nat) : Int) + 1 by omega]
    omega)
  refine hp.ext hd fun j h1 h2 => ?_
  have e := g j h1 h2
  have := (hp.pl (i := n + 1 - j) (by omega) (by omega)).2.2
  rw [show plL p ((n + 1 - j : Nat) : Int) = j by omega] at this
  rw [this, delL_ga h1 h2]; omega
theorem Stb.tail {p : List Int} {l : List (List Int)} (h : Stb n (p :: l)) : Stb n l := fun k hk => h (k + 1) (by simpa using hk)
theorem Stb.ids : ∀ {l : List (List Int)}, Stb n (idL n :: l) → (∀ p ∈ l, PL n p) → ∀ p ∈ l, p = idL n
  | [], _, _, p, hp => by simp at hp
  | q :: l, h, hl, p, hp => by
    have e : q = idL n := lw_id (hl q (List.mem_cons_self ..)) (h 0 (by simp))
    rcases List.mem_cons.1 hp with e2 | hp2
    · rw [e2]; exact e
    · rw [e] at h
      exact Stb.ids (l := l) h.tail (fun r hr => hl r (List.mem_cons_of_mem _ hr)) p hp2
theorem Stb.filt : ∀ {l : List (List Int)}, Stb n l → (∀ p ∈ l, PL n p) → Stb n (l.filter fun p => decide (p ≠ idL n))
  | [], _, _ => fun k hk => by simp at hk
  | p :: l, h, hl => by
    by_cases c : p = idL n
    · subst c
      have h0 := Stb.ids h (fun p hp => hl p (List.mem_cons_of_mem _ hp))
      have e : (idL n :: l).filter (fun p => decide (p ≠ idL n)) = [] := List.filter_eq_nil_iff.2 fun q hq => by
        rcases List.mem_cons.1 hq with rfl | hq
        · simp
        · rw [h0 q hq]; simp
      rw [e]
      exact fun k hk => by simp at hk
    · rw [List.filter_cons_of_pos (by simpa using c)]
      have ih := Stb.filt (l := l) h.tail (fun p hp => hl p (List.mem_cons_of_mem _ hp))
      intro k hk
      cases k with
      | succ k => exact ih k (by simpa using hk)
      | zero =>
        cases l with
        | nil => simp at hk
        | cons q l =>
          by_cases c2 : q = idL n
          · subst c2
            have h0 := Stb.ids h.tail (fun p hp => hl p (List.mem_cons_of_mem _ (List.mem_cons_of_mem _ hp)))
            have e : (idL n :: l).filter (fun p => decide (p ≠ idL n)) = [] := List.filter_eq_nil_iff.2 fun q hq => by
              rcases List.mem_cons.1 hq with rfl | hq
              · simp
              · rw [h0 q hq]; simp
            rw [e] at hk
            simp at hk
          · rw [List.filter_cons_of_pos (by simpa using c2)]
            exact h 0 (by simp)
theorem Stb.nodel {l : List (List Int)} (h : Stb n l) (hl : ∀ p ∈ l, PL n p) (h0 : 0 < l.length → ga l 0 ≠ delL n) : ∀ k, k < l.length → ga l k ≠ delL n
  | 0, hk => h0 hk
  | k + 1, hk => fun e => by
    have hw := h k hk
    rw [e] at hw
    exact Stb.nodel h hl h0 k (by omega) (lw_del (hl _ (ga_mem (by omega))) hw)
def phi : List (List Int) → Nat
  | [] => 0
  | p :: r => invc p + 32 * phi r
theorem phi_two (a : List (List Int)) {p q p' q' : List Int} (b : List (List Int)) (h : invc p' + 32 * invc q' < invc p + 32 * invc q) : phi (a ++ p' :: q' :: b) < phi (a ++ p :: q :: b) := by
  induction a with
  | nil => show invc p' + 32 * (invc q' + 32 * phi b) < invc p + 32 * (invc q + 32 * phi b); omega
  | cons x a ih => show invc x + 32 * phi (a ++ p' :: q' :: b) < invc x + 32 * phi (a ++ p :: q :: b); omega
theorem phi_shift (hn : n ≤ 6) {l : List (List Int)} (hl : ∀ p ∈ l, PL n p) {k i : Nat} (hk : k + 1 < l.length) (h1 : 1 ≤ i) (h2 : i < n) (st : ga (ga l (k + 1)) (i + 1) < ga (ga l (k + 1)) i) : phi ((l.set k (thenL (ga l k) (i : Int))).set (k + 1) (swL (ga l (k + 1)) i)) < phi l := by
  obtain ⟨a, b, _, e1, e2⟩ := two_split hk (thenL (ga l k) (i : Int)) (swL (ga l (k + 1)) i)
  have hp := hl _ (ga_mem (show k < l.length by omega))
  have hq := hl _ (ga_mem hk)
  rw [e2]
  conv => rhs; rw [e1]
  refine phi_two a b ?_
  have c1 := invc_swL (q := ga l (k + 1)) (i := i) (by rw [hq.len]; omega) st
  have c2 := invc_le (thenL (ga l k) (i : Int))
  rw [thenL_len, hp.len] at c2
  have c3 : (n + 1) * (n + 1 - 1) ≤ 7 * 6 := Nat.mul_le_mul (by omega) (by omega)
  omega
def dlW (n : Nat) : List Int := pmW ((delL n).drop 1)
def dzW (n : Nat) (z : Int) : List Int := if 0 < z then (List.replicate z.toNat (dlW n)).flatten else (List.replicate (-z).toNat (invW (dlW n))).flatten
def alW (n : Nat) (z : Int) (l : List (List Int)) : List Int := dzW n z ++ l.flatMap fun p => pmW (p.drop 1)
theorem PL.cons_ {p : List Int} (h : PL n p) : 0 :: p.drop 1 = p := by
  have hl := h.len
  have := List.drop_eq_getElem_cons (l := p) (i := 0) (by omega)
  rw [List.drop_zero] at this
  conv => rhs; rw [this]
  rw [← ga_eq (by omega), h.z]
theorem PL.cons_pl {p : List Int} (h : PL n p) : PL n (0 :: p.drop 1) := by rw [h.cons_]; exact h
theorem PL.word {p : List Int} (h : PL n p) (T : Nat → Wd) : EqT n (stW T (pmW (p.drop 1))) (acT n (fnP p) T) := by
  have := pmW_act h.cons_pl T
  rwa [h.cons_] at this
theorem PL.wok {p : List Int} (h : PL n p) : okW n (pmW (p.drop 1)) := (pmW_run h.cons_pl).ok
theorem okW.app {u v : List Int} (h : okW n u) (k : okW n v) : okW n (u ++ v) := fun x hx => by
  rcases List.mem_append.1 hx with hx | hx
  · exact h x hx
  · exact k x hx
theorem okW.inv {u : List Int} (h : okW n u) : okW n (invW u) := fun x hx => by
  unfold invW at hx
  obtain ⟨y, hy, rfl⟩ := List.mem_map.1 hx
  have := h y (List.mem_reverse.1 hy)
  omega
theorem dlW_ok (n : Nat) : okW n (dlW n) := (PL.del_ n).wok
theorem dlW_act (T : Nat → Wd) : EqT n (stW T (dlW n)) (acT n (fnP (delL n)) T) := (PL.del_ n).word T
theorem dlW_inv (T : Nat → Wd) : EqT n (stW T (invW (dlW n))) (dI n T) := by
  have e : EqT n (stW (dI n T) (dlW n)) T := (dlW_act _).trans (del_dI T)
  have := e.symm.stW_ (dlW_ok n).inv
  rw [stW_inv _ (dlW_ok n)] at this
  exact this
theorem flat_act {f : (Nat → Wd) → Nat → Wd} {u : List Int} (hu : okW n u) (h : ∀ T, EqT n (stW T u) (f T)) (hf : ∀ T U, EqT n T U → EqT n (f T) (f U)) : ∀ (m : Nat) (T : Nat → Wd), EqT n (stW T (List.replicate m u).flatten) (itT f m T) ∧ okW n (List.replicate m u).flatten
  | 0, T => ⟨EqT.refl _ _, fun x hx => by simp at hx⟩
  | m + 1, T => by
    have e : (List.replicate (m + 1) u).flatten = (List.replicate m u).flatten ++ u := by
      rw [List.replicate_succ', List.flatten_append]; simp
    obtain ⟨h1, h2⟩ := flat_act hu h hf m T
    rw [e, stW_app]
    exact ⟨(h _).trans (hf _ _ h1), h2.app hu⟩
theorem dzW_act (z : Int) (T : Nat → Wd) : EqT n (stW T (dzW n z)) (dP n z T) ∧ okW n (dzW n z) := by
  unfold dzW dP
  by_cases h : 0 < z
  · rw [if_pos h, if_pos (by omega)]
    exact flat_act (dlW_ok n) dlW_act (fun _ _ h => h.acT_) _ _
  · rw [if_neg h]
    have := flat_act (dlW_ok n).inv (dlW_inv (n := n)) (fun _ _ h => h.dI_) (-z).toNat T
    by_cases h0 : z = 0
    · subst h0; exact this
    · rw [if_neg (by omega)]; exact this
theorem alW_l : ∀ {l : List (List Int)} (T : Nat → Wd), (∀ p ∈ l, PL n p) → EqT n (stW T (l.flatMap fun p => pmW (p.drop 1))) (acL n l T) ∧ okW n (l.flatMap fun p => pmW (p.drop 1))
  | [], T, _ => ⟨EqT.refl _ _, fun x hx => by simp at hx⟩
  | p :: l, T, h => by
    have hp := h p (List.mem_cons_self ..)
    obtain ⟨h1, h2⟩ := alW_l (l := l) (acT n (fnP p) T) fun q hq => h q (List.mem_cons_of_mem _ hq)
    rw [List.flatMap_cons, stW_app]
    exact ⟨((hp.word T).stW_ h2).trans h1, hp.wok.app h2⟩
theorem NfI.word (h : NfI n w z l) : EqT n (stW tb0 (alW n z l)) (stW tb0 w) ∧ okW n (alW n z l) := by
  obtain ⟨a1, a2⟩ := dzW_act (n := n) z tb0
  obtain ⟨b1, b2⟩ := alW_l (stW tb0 (dzW n z)) h.pl
  unfold alW
  rw [stW_app]
  exact ⟨(b1.trans a1.acL_).trans h.act, a2.app b2⟩
def TabW (n : Nat) (t : List (List Int)) (T : Nat → Wd) : Prop := t.length = n ∧ ∀ i, i < n → ga t i = (T (i + 1)).1
theorem tab0 (n : Nat) : TabW n (unitA n) tb0 := ⟨by simp [unitA], fun i hi => by rw [ga_eq (by simpa [unitA] using hi)]; simp [unitA, tb0]⟩
theorem TabW.step {t : List (List Int)} {T : Nat → Wd} (h : TabW n t T) {x : Int} (hx : 1 ≤ max x (-x) ∧ max x (-x) < n) : TabW n (stepA t x) (stL T x) := by
  obtain ⟨hl, hg⟩ := h
  have hi : (max x (-x) - 1).toNat + 1 < n := by omega
  obtain ⟨i, hie⟩ : ∃ i, (max x (-x) - 1).toNat = i := ⟨_, rfl⟩
  rw [hie] at hi
  have g1 := hg i (by omega)
  have g2 := hg (i + 1) hi
  refine ⟨by unfold stepA; dsimp only; split <;> simp [hl], fun j hj => ?_⟩
  unfold stepA stL
  dsimp only
  rw [hie]
  by_cases c : 0 < x
  · rw [if_pos c, if_pos c, show x.toNat = i + 1 by omega, ga_set _ _ _ _ (by simp; omega)]
    by_cases c1 : i + 1 = j
    · rw [if_pos c1, ← c1, stT_s, g1]
    · rw [if_neg c1, ga_set _ _ _ _ (by omega)]
      by_cases c2 : i = j
      · rw [if_pos c2, ← c2, stT_i, g1, g2, prod3_red (T (i + 1)).2]; rfl
      · rw [if_neg c2, stT_j _ (by omega) (by omega), hg j hj]
  · rw [if_neg c, if_neg c, show (-x).toNat = i + 1 by omega, ga_set _ _ _ _ (by simp; omega)]
    by_cases c1 : i + 1 = j
    · rw [if_pos c1, ← c1, stI_s, g1, g2, prod3_red (T (i + 1 + 1)).2.inv_]; rfl
    · rw [if_neg c1, ga_set _ _ _ _ (by omega)]
      by_cases c2 : i = j
      · rw [if_pos c2, ← c2, stI_i, g2]
      · rw [if_neg c2, stI_j _ (by omega) (by omega), hg j hj]
theorem tab_word {u : List Int} (hu : okW n u) : TabW n (actP n u) (stW tb0 u) := by
  have key : ∀ (u : List Int) (t : List (List Int)) (T : Nat → Wd), okW n u → TabW n t T → TabW n (u.foldl stepA t) (stW T u) := by
    intro u
    induction u with
    | nil => intro t T _ h; exact h
    | cons x u ih => intro t T hu h; exact ih _ _ (fun y hy => hu y (List.mem_cons_of_mem _ hy)) (h.step (hu x (List.mem_cons_self ..)))
  exact key u _ _ hu (tab0 n)
/-- Words that act alike have one table. -/
theorem act_same {u v : List Int} (hu : okW n u) (hv : okW n v) (h : EqT n (stW tb0 u) (stW tb0 v)) : actP n u = actP n v := by
  obtain ⟨a1, a2⟩ := tab_word hu
  obtain ⟨b1, b2⟩ := tab_word hv
  refine ga_ext (by rw [a1, b1]) fun i hi => ?_
  rw [a1] at hi
  rw [a2 i hi, b2 i hi, h (i + 1) (by omega) (by omega)]
end
end Go.Proofs.Ytomcgmialkdcbaa
namespace Go.Proofs.Ytomcgmialkdcbaa
open Go.ChangeShapes Go.WideShapes Go.ChangeAt Go.RowKit
def mayI (n : Int) (u v : List Int) : Int := if n < 2 ∨ 6 < n then 3 else if (u ++ v).any (wrongB n) then 3 else if 20 < u.length ∨ 20 < v.length then 2 else 0
theorem mayI_check (n : Int) (u : List Int) : mayI n u [] = checkI n [u] := by
 unfold mayI checkI
 simp
noncomputable def WordsMay_n0 : Code := Try.f7.body.getD .skip
noncomputable def WordsMay_n1 : Code := cL WordsMay_n0
noncomputable def WordsMay_n2 : Code := cR WordsMay_n0
noncomputable def WordsMay_n3 : Code := cL WordsMay_n2
noncomputable def WordsMay_n4 : Code := cR WordsMay_n2
noncomputable def WordsMay_n5 : Code := cL WordsMay_n3
noncomputable def WordsMay_n6 : Code := cR WordsMay_n3
noncomputable def WordsMay_n7 : Code := cL WordsMay_n6
noncomputable def WordsMay_n8 : Code := cR WordsMay_n6
noncomputable def WordsMay_n9 : Code := cL WordsMay_n7
noncomputable def WordsMay_n10 : Code := cR WordsMay_n7
noncomputable def WordsMay_n11 : Code := cL WordsMay_n4
noncomputable def WordsMay_n12 : Code := cR WordsMay_n4
noncomputable def WordsMay_n13 : Code := cL WordsMay_n12
noncomputable def WordsMay_n14 : Code := cR WordsMay_n12
noncomputable def WordsMay_n15 : Code := cL WordsMay_n13
noncomputable def WordsMay_n16 : Code := cR WordsMay_n13
noncomputable def WordsMay_n17 : Code := cL WordsMay_n16
noncomputable def WordsMay_n18 : Code := cL WordsMay_n17
noncomputable def WordsMay_n19 : Code := cL WordsMay_n18
noncomputable def WordsMay_n20 : Code := cR WordsMay_n18
noncomputable def WordsMay_n21 : Code := cL WordsMay_n19
noncomputable def WordsMay_n22 : Code := cR WordsMay_n19
noncomputable def WordsMay_n23 : Code := cL WordsMay_n22
noncomputable def WordsMay_n24 : Code := cR WordsMay_n22
noncomputable def WordsMay_n25 : Code := cL WordsMay_n20
noncomputable def WordsMay_n26 : Code := cR WordsMay_n20
noncomputable def WordsMay_n27 : Code := cL WordsMay_n25
noncomputable def WordsMay_n28 : Code := cL WordsMay_n27
noncomputable def WordsMay_n29 : Code := cR WordsMay_n27
noncomputable def WordsMay_n30 : Code := cL WordsMay_n29
noncomputable def WordsMay_n31 : Code := cR WordsMay_n29
noncomputable def WordsMay_n32 : Code := cL WordsMay_n30
noncomputable def WordsMay_n33 : Code := cR WordsMay_n30
noncomputable def WordsMay_n34 : Code := cL WordsMay_n14
noncomputable def WordsMay_n35 : Code := cR WordsMay_n14
noncomputable def WordsMay_n36 : Code := cL WordsMay_n34
noncomputable def WordsMay_n37 : Code := cR WordsMay_n34
noncomputable def WordsMay_n38 : Code := cL WordsMay_n37
noncomputable def WordsMay_n39 : Code := cR WordsMay_n37
noncomputable def WordsMay_n40 : Code := cL WordsMay_n38
noncomputable def WordsMay_n41 : Code := cR WordsMay_n38
noncomputable def WordsMay_n42 : Code := cL WordsMay_n35
noncomputable def WordsMay_n43 : Code := cR WordsMay_n35
set_option maxRecDepth 10000 in
theorem WordsMay_q {w : World} {M : Hp} {X : Fr} (n : Int) (p : List Int) {pA : Option Addr} {pc : Nat} (q : List Int) {qA : Option Addr} {qc : Nat} (hp : RdA cdInt (M.un X.h) pA pc p) (hq : RdA cdInt (M.un X.h) qA qc q) (hro : (p.length + q.length) * 8 ≤ 140737488355328) (S : SH w M X []) : Cq Try.prog 7 [.int .i64 n, .slice pA p.length pc, .slice qA q.length qc] w M X (fun u => u = .int .i64 (mayI n p q)) := by
 unfold Cq
 have rmhp : p.length * 8 ≤ 140737488355328 := hp.room
 have rmhq : q.length * 8 ≤ 140737488355328 := hq.room
 have huv : (p ++ q).length = p.length + q.length := List.length_append
 refine calls_in (b := WordsMay_n0) Try.func7 rfl Try.ntmps7 rfl (fun C hC => (ws_sub [(0, _), (1, _), (2, _)] ⟨rfl, rfl, rfl, trivial⟩ (ws_seqN WordsMay_n1 WordsMay_n2 rfl rfl rfl (ws_region rfl (wla 0 1 rfl rfl rfl rfl rfl rfl rfl ?_)))))
 refine wl_end rfl (nmk [0, 1, 2] rfl (nm_thn (ws_seqN WordsMay_n3 WordsMay_n4 rfl rfl rfl (ws_seqN WordsMay_n5 WordsMay_n6 rfl rfl rfl ?_))))
 refine ws_region rfl (wlm 0 1 rfl rfl rfl rfl rfl rfl rfl (wlo 1 2 rfl rfl rfl (wo_run rfl rfl (run_lss rfl rfl rfl) (wlm 2 3 rfl rfl rfl rfl rfl rfl rfl ?_))))
 refine wl_split (t := 11) rfl (fun hg11 => ?_) (fun hg11 => ?_)
 ·replace hg11 := of_decide_eq_true hg11
  refine wln 3 4 rfl rfl rfl rfl rfl rfl rfl rfl rfl (wln 4 5 rfl rfl rfl rfl rfl rfl rfl rfl rfl (wlo 5 6 rfl rfl rfl (wo_run rfl rfl (run_pickT rfl rfl rfl) (wl_end rfl (nmk [0, 1, 2, 14] rfl ?_)))))
  refine nm_thn (ws_condTN WordsMay_n7 rfl rfl rfl (ws_seqN WordsMay_n9 WordsMay_n10 rfl rfl rfl (ws_region rfl (wla 0 1 rfl rfl rfl rfl rfl rfl rfl ?_))))
  refine wl_end rfl (nmk [6] rfl (nm_thn (ws_ret hC [_] rfl rfl ⟨rfl, trivial⟩ ?_)))
  exact ⟨_, rfl, (S.pick [] [] (by decide) trivial), (by show Value.int _ _ = _; unfold mayI; first | rw [if_pos (by omega)] | rw [if_neg (by omega), if_pos (by rw [List.any_eq_true]; exact ⟨ga (p ++ q) k, ga_mem (xs := p ++ q) (i := k) (by omega), by unfold wrongB; rw [decide_eq_true_iff]; omega⟩)])⟩
 ·replace hg11 := of_decide_eq_false hg11
  refine wlg 3 4 rfl rfl rfl rfl rfl rfl rfl rfl (wo_run rfl rfl (run_move rfl rfl) (wlg 4 5 rfl rfl rfl rfl rfl rfl rfl rfl (wo_run rfl rfl (run_gtr rfl rfl rfl) (wlo 5 6 rfl rfl rfl (wo_run rfl rfl (run_pickF rfl rfl rfl) (wl_end rfl (nmk [0, 1, 2, 14] rfl ?_)))))))
  refine nm_thn ?_
  refine ws_condN WordsMay_n7 WordsMay_n8 rfl rfl rfl rfl (fun hb14 => ?_) (fun hb14 => ?_)
  ·replace hb14 := of_decide_eq_true hb14
   refine ws_seqN WordsMay_n9 WordsMay_n10 rfl rfl rfl (ws_region rfl (wla 0 1 rfl rfl rfl rfl rfl rfl rfl (wl_end rfl (nmk [6] rfl ?_))))
   refine nm_thn (ws_ret hC [_] rfl rfl ⟨rfl, trivial⟩ ?_)
   exact ⟨_, rfl, (S.pick [] [] (by decide) trivial), (by show Value.int _ _ = _; unfold mayI; first | rw [if_pos (by omega)] | rw [if_neg (by omega), if_pos (by rw [List.any_eq_true]; exact ⟨ga (p ++ q) k, ga_mem (xs := p ++ q) (i := k) (by omega), by unfold wrongB; rw [decide_eq_true_iff]; omega⟩)])⟩
  ·replace hb14 := of_decide_eq_false hb14
   refine ws_skip rfl (nmk [0, 1, 2] rfl (nm_thn (ws_seqN WordsMay_n11 WordsMay_n12 rfl rfl rfl (ws_region rfl ?_))))
   refine wlm 0 1 rfl rfl rfl rfl rfl rfl rfl ?_
   have S1 := S.nilrow cdInt; clear S
   refine wlo 1 2 rfl rfl rfl (wo_appendM (C := cdInt) (i := 0) rfl rfl rfl rfl rfl rfl rfl rfl sl22 S1 rfl hp S1.um (by have h : _ * 8 ≤ _ := hp.room; show (0 + _) * 8 ≤ _; first | omega | (simp only [lens]; omega)) ?_)
   intro vr2 w1 S2; clear S1
   change SH _ _ _ [Rs.row cdInt vr2 p] at S2
   refine wlm 2 3 rfl rfl rfl rfl rfl rfl rfl (wlo 3 4 rfl rfl rfl (wo_appendM (C := cdInt) (i := 0) rfl rfl rfl rfl rfl rfl rfl rfl sl22 S2 rfl hq S2.um (by show (_ + _) * 8 ≤ _; first | omega | (simp only [lens]; omega)) ?_))
   intro vr3 w2 S3; clear S2
   change SH _ _ _ [Rs.row cdInt vr3 (p ++ q)] at S3
   refine wla 4 5 rfl rfl rfl rfl rfl rfl rfl (wl_end rfl (nmk [0, 1, 2, 7] rfl (nm_thn (ws_seqN WordsMay_n13 WordsMay_n14 rfl rfl rfl ?_))))
   refine ws_seqN WordsMay_n15 WordsMay_n16 rfl rfl rfl (ws_region rfl (wla 0 1 rfl rfl rfl rfl rfl rfl rfl (wl_end rfl (nm_thn ?_))))
   refine ws_blockN WordsMay_n17 0 rfl rfl rfl ?_
   refine ws_loopE (fun mx_ ax_ wx_ => ∃ (k : Nat) (acc : List Int) (vro : Value), mx_ = acc.length - k ∧ Env 55 [(0, .int .i64 n), (1, .slice pA p.length pc), (2, .slice qA q.length qc), (7, vro), (8, .int .i64 (k : Int))] ax_ ∧ SH wx_ M X [Rs.row cdInt vro acc] ∧ k ≤ acc.length ∧ acc = p ++ q ∧ (∀ j, j < k → wrongB n (ga (p ++ q) j) = false)) rfl ?_ ?_
   ·intro ax_ hax_
    refine ⟨_, ⟨0, _, _, rfl, hax_.sub ⟨rfl, rfl, rfl, rfl, rfl, trivial⟩, S3.pick [0] [_] (by decide) ⟨rfl, trivial⟩, ?hq1f0, ?hq1f1, ?hq1f2⟩⟩
    case hq1f0 => omega
    case hq1f1 => rfl
    case hq1f2 => (intro j hj; omega)
   ·rintro m1 a1 w3 ⟨k, acc, vro, rfl, he1, S4, hk, hacc, hno⟩
    clear S3
    refine ws_in he1 (c := WordsMay_n18) rfl ?_
    clear he1 a1
    subst hacc
    refine ws_seqN WordsMay_n19 WordsMay_n20 rfl rfl rfl (ws_seqN WordsMay_n21 WordsMay_n22 rfl rfl rfl (ws_region rfl (wlm 0 1 rfl rfl rfl rfl rfl rfl rfl (wlm 1 2 rfl rfl rfl rfl rfl rfl rfl ?_))))
    refine wlo 2 3 rfl rfl rfl (wo_run rfl rfl (run_lenR (C := cdInt) (i := 0) rfl rfl rfl rfl rfl rfl sl22 S4 rfl) (wlo 3 4 rfl rfl rfl (wo_run rfl rfl (run_lss rfl rfl rfl) (wl_end rfl (nmk [0, 1, 2, 7, 8, 22] rfl (nm_thn ?_))))))
    refine ws_condN WordsMay_n23 WordsMay_n24 rfl rfl rfl rfl (fun hb22 => ?_) (fun hb22 => ?_)
    ·replace hb22 := of_decide_eq_true hb22
     refine ws_skip rfl (nmk [0, 1, 2, 7, 8] rfl (nm_thn (ws_seqN WordsMay_n25 WordsMay_n26 rfl rfl rfl (ws_blockN WordsMay_n27 1 rfl rfl rfl ?_))))
     refine ws_seqN WordsMay_n28 WordsMay_n29 rfl rfl rfl (ws_region rfl (wlm 0 1 rfl rfl rfl rfl rfl rfl rfl (wlm 1 2 rfl rfl rfl rfl rfl rfl rfl (wlo 2 3 rfl rfl rfl (wo_run rfl rfl (run_indexR (C := cdInt) (i := 0) k rfl rfl rfl sl22 S4 rfl (by first | rfl | omega) (by first | omega | (simp only [lens]; omega))) ?_)))))
     refine wlo 3 4 rfl rfl rfl (wo_run rfl rfl (run_load1 rfl rfl Try.underlying3 rfl (S4.rowc (i := 0) (e := k) (j := 0) rfl (by first | omega | (simp only [lens]; omega)) rfl rfl)) ?_)
     refine wlo 4 5 rfl rfl rfl (wo_run rfl rfl (run_eql rfl rfl rfl) (wlm 5 6 rfl rfl rfl rfl rfl rfl rfl ?_))
     refine wl_split (t := 30) rfl (fun hg30 => ?_) (fun hg30 => ?_)
     ·replace hg30 := of_decide_eq_true hg30
      refine wln 6 7 rfl rfl rfl rfl rfl rfl rfl rfl rfl (wln 7 8 rfl rfl rfl rfl rfl rfl rfl rfl rfl (wln 8 9 rfl rfl rfl rfl rfl rfl rfl rfl rfl (wln 9 10 rfl rfl rfl rfl rfl rfl rfl rfl rfl (wln 10 11 rfl rfl rfl rfl rfl rfl rfl rfl rfl ?_))))
      refine wln 11 12 rfl rfl rfl rfl rfl rfl rfl rfl rfl (wln 12 13 rfl rfl rfl rfl rfl rfl rfl rfl rfl (wlo 13 14 rfl rfl rfl (wo_run rfl rfl (run_pickT rfl rfl rfl) (wlm 14 15 rfl rfl rfl rfl rfl rfl rfl (wln 15 16 rfl rfl rfl rfl rfl rfl rfl rfl rfl ?_)))))
      refine wln 16 17 rfl rfl rfl rfl rfl rfl rfl rfl rfl (wln 17 18 rfl rfl rfl rfl rfl rfl rfl rfl rfl (wln 18 19 rfl rfl rfl rfl rfl rfl rfl rfl rfl (wln 19 20 rfl rfl rfl rfl rfl rfl rfl rfl rfl (wln 20 21 rfl rfl rfl rfl rfl rfl rfl rfl rfl ?_))))
      refine wlo 21 22 rfl rfl rfl (wo_run rfl rfl (run_pickT rfl rfl rfl) (wl_end rfl (nmk [0, 1, 2, 7, 8, 46] rfl (nm_thn (ws_condTN WordsMay_n30 rfl rfl rfl ?_)))))
      refine ws_seqN WordsMay_n32 WordsMay_n33 rfl rfl rfl (ws_region rfl (wla 0 1 rfl rfl rfl rfl rfl rfl rfl (wl_end rfl (nmk [6] rfl ?_))))
      refine nm_thn (ws_ret hC [_] rfl rfl ⟨rfl, trivial⟩ ?_)
      exact ⟨_, rfl, (S4.pick [] [] (by decide) trivial), (by show Value.int _ _ = _; unfold mayI; first | rw [if_pos (by omega)] | rw [if_neg (by omega), if_pos (by rw [List.any_eq_true]; exact ⟨ga (p ++ q) k, ga_mem (xs := p ++ q) (i := k) (by omega), by unfold wrongB; rw [decide_eq_true_iff]; omega⟩)])⟩
     ·replace hg30 := of_decide_eq_false hg30
      refine wlg 6 7 rfl rfl rfl rfl rfl rfl rfl rfl (wo_run rfl rfl (run_move rfl rfl) (wlg 7 8 rfl rfl rfl rfl rfl rfl rfl rfl (wo_run rfl rfl (run_move rfl rfl) (wlg 8 9 rfl rfl rfl rfl rfl rfl rfl rfl (wo_run rfl rfl (run_indexR (C := cdInt) (i := 0) k rfl rfl rfl sl22 S4 rfl (by first | rfl | omega) (by first | omega | (simp only [lens]; omega))) ?_)))))
      refine wlg 9 10 rfl rfl rfl rfl rfl rfl rfl rfl (wo_run rfl rfl (run_load1 rfl rfl Try.underlying3 rfl (S4.rowc (i := 0) (e := k) (j := 0) rfl (by first | omega | (simp only [lens]; omega)) rfl rfl)) ?_)
      refine wlg 10 11 rfl rfl rfl rfl rfl rfl rfl rfl (wo_run rfl rfl (run_move rfl rfl) (wlg 11 12 rfl rfl rfl rfl rfl rfl rfl rfl (wo_run rfl rfl (run_neg rfl rfl (by first | omega | (simp only [lens]; omega))) ?_)))
      refine wlg 12 13 rfl rfl rfl rfl rfl rfl rfl rfl (wo_run rfl rfl (run_leq rfl rfl rfl) (wlo 13 14 rfl rfl rfl (wo_run rfl rfl (run_pickF rfl rfl rfl) (wlm 14 15 rfl rfl rfl rfl rfl rfl rfl ?_))))
      refine wl_split (t := 39) rfl (fun hg39 => ?_) (fun hg39 => ?_)
      ·replace hg39 := of_decide_eq_true hg39
       refine wln 15 16 rfl rfl rfl rfl rfl rfl rfl rfl rfl (wln 16 17 rfl rfl rfl rfl rfl rfl rfl rfl rfl (wln 17 18 rfl rfl rfl rfl rfl rfl rfl rfl rfl (wln 18 19 rfl rfl rfl rfl rfl rfl rfl rfl rfl (wln 19 20 rfl rfl rfl rfl rfl rfl rfl rfl rfl ?_))))
       refine wln 20 21 rfl rfl rfl rfl rfl rfl rfl rfl rfl (wlo 21 22 rfl rfl rfl (wo_run rfl rfl (run_pickT rfl rfl rfl) (wl_end rfl (nmk [0, 1, 2, 7, 8, 46] rfl (nm_thn ?_)))))
       refine ws_condTN WordsMay_n30 rfl rfl rfl (ws_seqN WordsMay_n32 WordsMay_n33 rfl rfl rfl (ws_region rfl (wla 0 1 rfl rfl rfl rfl rfl rfl rfl (wl_end rfl ?_))))
       refine nmk [6] rfl (nm_thn (ws_ret hC [_] rfl rfl ⟨rfl, trivial⟩ ?_))
       exact ⟨_, rfl, (S4.pick [] [] (by decide) trivial), (by show Value.int _ _ = _; unfold mayI; first | rw [if_pos (by omega)] | rw [if_neg (by omega), if_pos (by rw [List.any_eq_true]; exact ⟨ga (p ++ q) k, ga_mem (xs := p ++ q) (i := k) (by omega), by unfold wrongB; rw [decide_eq_true_iff]; omega⟩)])⟩
      ·replace hg39 := of_decide_eq_false hg39
       refine wlg 15 16 rfl rfl rfl rfl rfl rfl rfl rfl (wo_run rfl rfl (run_move rfl rfl) (wlg 16 17 rfl rfl rfl rfl rfl rfl rfl rfl (wo_run rfl rfl (run_move rfl rfl) (wlg 17 18 rfl rfl rfl rfl rfl rfl rfl rfl (wo_run rfl rfl (run_indexR (C := cdInt) (i := 0) k rfl rfl rfl sl22 S4 rfl (by first | rfl | omega) (by first | omega | (simp only [lens]; omega))) ?_)))))
       refine wlg 18 19 rfl rfl rfl rfl rfl rfl rfl rfl (wo_run rfl rfl (run_load1 rfl rfl Try.underlying3 rfl (S4.rowc (i := 0) (e := k) (j := 0) rfl (by first | omega | (simp only [lens]; omega)) rfl rfl)) ?_)
       refine wlg 19 20 rfl rfl rfl rfl rfl rfl rfl rfl (wo_run rfl rfl (run_move rfl rfl) (wlg 20 21 rfl rfl rfl rfl rfl rfl rfl rfl (wo_run rfl rfl (run_geq rfl rfl rfl) (wlo 21 22 rfl rfl rfl (wo_run rfl rfl (run_pickF rfl rfl rfl) (wl_end rfl (nmk [0, 1, 2, 7, 8, 46] rfl ?_)))))))
       refine nm_thn ?_
       refine ws_condN WordsMay_n30 WordsMay_n31 rfl rfl rfl rfl (fun hb46 => ?_) (fun hb46 => ?_)
       ·replace hb46 := of_decide_eq_true hb46
        refine ws_seqN WordsMay_n32 WordsMay_n33 rfl rfl rfl (ws_region rfl (wla 0 1 rfl rfl rfl rfl rfl rfl rfl (wl_end rfl (nmk [6] rfl ?_))))
        refine nm_thn (ws_ret hC [_] rfl rfl ⟨rfl, trivial⟩ ?_)
        exact ⟨_, rfl, (S4.pick [] [] (by decide) trivial), (by show Value.int _ _ = _; unfold mayI; first | rw [if_pos (by omega)] | rw [if_neg (by omega), if_pos (by rw [List.any_eq_true]; exact ⟨ga (p ++ q) k, ga_mem (xs := p ++ q) (i := k) (by omega), by unfold wrongB; rw [decide_eq_true_iff]; omega⟩)])⟩
       ·replace hb46 := of_decide_eq_false hb46
        refine ws_skip rfl (nm_blk (nmk [0, 1, 2, 7, 8] rfl (nm_thn (ws_region rfl ?_))))
        refine wlm 0 1 rfl rfl rfl rfl rfl rfl rfl (wlo 1 2 rfl rfl rfl (wo_run rfl rfl (run_add rfl rfl rfl (by first | omega | (simp only [lens]; omega))) ?_))
        refine wla 2 3 rfl rfl rfl rfl rfl rfl rfl (wl_end rfl (nm_lp ?_))
        intro ax_ hax_
        refine ⟨_, ?hq2m, ⟨k + 1, _, _, rfl, hax_.sub ⟨rfl, rfl, rfl, rfl, rfl, trivial⟩, S4.pick [0] [_] (by decide) ⟨rfl, trivial⟩, ?hq2f0, ?hq2f1, ?hq2f2⟩⟩
        case hq2f0 => omega
        case hq2f1 => rfl
        case hq2f2 => (intro j hj; by_cases h : j = k; (subst h; unfold wrongB; rw [decide_eq_false_iff_not]; omega); exact hno j (by omega))
        case hq2m => omega
    ·replace hb22 := of_decide_eq_false hb22
     refine ws_exit rfl rfl (nmk [1, 2] rfl (nm_thn (ws_seqN WordsMay_n34 WordsMay_n35 rfl rfl rfl (ws_seqN WordsMay_n36 WordsMay_n37 rfl rfl rfl ?_))))
     refine ws_region rfl (wlm 0 1 rfl rfl rfl rfl rfl rfl rfl (wlo 1 2 rfl rfl rfl (wo_run rfl rfl (run_len rfl rfl rfl rfl rfl rfl Try.underlying22) (wlo 2 3 rfl rfl rfl (wo_run rfl rfl (run_gtr rfl rfl rfl) (wlm 3 4 rfl rfl rfl rfl rfl rfl rfl ?_))))))
     refine wl_split (t := 50) rfl (fun hg50 => ?_) (fun hg50 => ?_)
     ·replace hg50 := of_decide_eq_true hg50
      refine wln 4 5 rfl rfl rfl rfl rfl rfl rfl rfl rfl (wln 5 6 rfl rfl rfl rfl rfl rfl rfl rfl rfl (wln 6 7 rfl rfl rfl rfl rfl rfl rfl rfl rfl (wlo 7 8 rfl rfl rfl (wo_run rfl rfl (run_pickT rfl rfl rfl) (wl_end rfl ?_)))))
      refine nmk [54] rfl (nm_thn (ws_condTN WordsMay_n38 rfl rfl rfl (ws_seqN WordsMay_n40 WordsMay_n41 rfl rfl rfl (ws_region rfl ?_))))
      refine wla 0 1 rfl rfl rfl rfl rfl rfl rfl (wl_end rfl (nmk [6] rfl (nm_thn (ws_ret hC [_] rfl rfl ⟨rfl, trivial⟩ ?_))))
      exact ⟨_, rfl, (S4.pick [] [] (by decide) trivial), (by show Value.int _ _ = _; unfold mayI; rw [if_neg (by omega), if_neg (by rw [anyF (fun j hj => hno j (by omega))]; exact Bool.false_ne_true), if_pos (by omega)])⟩
     ·replace hg50 := of_decide_eq_false hg50
      refine wlg 4 5 rfl rfl rfl rfl rfl rfl rfl rfl (wo_run rfl rfl (run_move rfl rfl) (wlg 5 6 rfl rfl rfl rfl rfl rfl rfl rfl (wo_run rfl rfl (run_len rfl rfl rfl rfl rfl rfl Try.underlying22) (wlg 6 7 rfl rfl rfl rfl rfl rfl rfl rfl (wo_run rfl rfl (run_gtr rfl rfl rfl) (wlo 7 8 rfl rfl rfl (wo_run rfl rfl (run_pickF rfl rfl rfl) (wl_end rfl ?_))))))))
      refine nmk [54] rfl (nm_thn ?_)
      refine ws_condN WordsMay_n38 WordsMay_n39 rfl rfl rfl rfl (fun hb54 => ?_) (fun hb54 => ?_)
      ·replace hb54 := of_decide_eq_true hb54
       refine ws_seqN WordsMay_n40 WordsMay_n41 rfl rfl rfl (ws_region rfl (wla 0 1 rfl rfl rfl rfl rfl rfl rfl (wl_end rfl (nmk [6] rfl ?_))))
       refine nm_thn (ws_ret hC [_] rfl rfl ⟨rfl, trivial⟩ ?_)
       exact ⟨_, rfl, (S4.pick [] [] (by decide) trivial), (by show Value.int _ _ = _; unfold mayI; rw [if_neg (by omega), if_neg (by rw [anyF (fun j hj => hno j (by omega))]; exact Bool.false_ne_true), if_pos (by omega)])⟩
      ·replace hb54 := of_decide_eq_false hb54
       refine ws_skip rfl (nm_sub [] trivial (nm_thn (ws_seqN WordsMay_n42 WordsMay_n43 rfl rfl rfl (ws_region rfl ?_))))
       refine wla 0 1 rfl rfl rfl rfl rfl rfl rfl (wl_end rfl (nm_thn (ws_ret hC [_] rfl rfl ⟨rfl, trivial⟩ ?_)))
       exact ⟨_, rfl, (S4.pick [] [] (by decide) trivial), (by show Value.int _ _ = _; unfold mayI; rw [if_neg (by omega), if_neg (by rw [anyF (fun j hj => hno j (by omega))]; exact Bool.false_ne_true), if_neg (by omega)])⟩
noncomputable def ints_n0 : Code := Try.f6.body.getD .skip
noncomputable def ints_n1 : Code := cL ints_n0
noncomputable def ints_n2 : Code := cR ints_n0
noncomputable def ints_n3 : Code := cL ints_n2
noncomputable def ints_n4 : Code := cR ints_n2
set_option maxRecDepth 10000 in
theorem ints_t {w : World} {M : Hp} {X : Fr} (p : List Int) {pA : Option Addr} {pc : Nat} (hp : RdA cdInt (M.un X.h) pA pc p) (S : SH w M X []) : Ct Try.prog 6 [.slice pA p.length pc] w M X (IsE p) := by
 unfold Ct
 have rmhp : p.length * 8 ≤ 140737488355328 := hp.room
 refine calls_in (b := ints_n0) Try.func6 rfl Try.ntmps6 rfl (fun C hC => (ws_sub [(0, _)] ⟨rfl, trivial⟩ (ws_seqN ints_n1 ints_n2 rfl rfl rfl (ws_region rfl (wla 0 1 rfl rfl rfl rfl rfl rfl rfl ?_)))))
 refine wl_end rfl (nmk [0] rfl (nm_thn (ws_seqN ints_n3 ints_n4 rfl rfl rfl (ws_region rfl ?_))))
 refine wlm 0 1 rfl rfl rfl rfl rfl rfl rfl ?_
 have S1 := S.nilrow cdInt; clear S
 refine wlo 1 2 rfl rfl rfl (wo_appendM (C := cdInt) (i := 0) rfl rfl rfl rfl rfl rfl rfl rfl sl22 S1 rfl hp S1.um (by have h : _ * 8 ≤ _ := hp.room; show (0 + _) * 8 ≤ _; first | omega | (simp only [lens]; omega)) ?_)
 intro vr2 w1 S2; clear S1
 change SH _ _ _ [Rs.row cdInt vr2 p] at S2
 refine wla 2 3 rfl rfl rfl rfl rfl rfl rfl (wl_end rfl (nmk [2] rfl (nm_thn ?_)))
 obtain ⟨M1, hle1, S3, ⟨A1, c1, e1, hr1⟩⟩ := S2.pubrow (i := 0) (H' := [_]) rfl rfl (by show _ * 8 ≤ _; first | omega | (simp only [lens]; omega))
 clear S2; subst e1
 replace hp := hp.mono (Hp.un_mono hle1 S3.mx)
 refine ws_ret hC [_] rfl rfl ⟨rfl, trivial⟩ ?_
 refine ⟨_, rfl, _, hle1, (S3.pick [] [] (by decide) trivial), ?_⟩
 exact ⟨_, _, rfl, hr1⟩
end Go.Proofs.Ytomcgmialkdcbaa
namespace Go.Proofs.Ytomcgmialkdcbaa
open Go.ChangeShapes Go.WideShapes Go.ChangeAt Go.RowKit
section
variable {α : Type} {C : Cd α} {N N' : Hp} {vs vs' : List SlV} {xss yss : List (List α)}
theorem Rd2.take_ (h : Rd2 C N vs xss) (k : Nat) : Rd2 C N (vs.take k) (xss.take k) := ⟨by rw [List.length_take, List.length_take, h.1], fun i hi => by
  rw [List.length_take] at hi
  have := h.2 i (by omega)
  rw [ga_take _ _ _ (by omega), ga_take _ _ _ (by omega)]
  exact this⟩
theorem ga_drop {β : Type} [Inhabited β] (xs : List β) (k i : Nat) : ga (xs.drop k) i = ga xs (k + i) := by
  unfold ga; simp [List.getD_eq_getElem?_getD]
theorem Rd2.drop_ (h : Rd2 C N vs xss) (k : Nat) : Rd2 C N (vs.drop k) (xss.drop k) := ⟨by rw [List.length_drop, List.length_drop, h.1], fun i hi => by
  rw [List.length_drop] at hi
  have := h.2 (k + i) (by omega)
  rw [ga_drop, ga_drop]
  exact this⟩
variable {svs : List (List SlV)} {mm : List (List (List α))}
end
section
variable {P : Program} {o : Oper} {L : List (Nat × Value)} {w : World} {x hx : Operand} {t tn T : TypeId} {n d : Nat} {Kt : List (Nat × Value) → World → Prop} {M : Hp} {X : Fr} {H : List Rs}
end
end Go.Proofs.Ytomcgmialkdcbaa
namespace Go.Proofs.Ytomcgmialkdcbaa
open Go.ChangeShapes Go.WideShapes Go.ChangeAt Go.RowKit
def Rs.bun (H : List Rs) : Rs :=
  ⟨H.flatMap (·.bl), fun h => (∀ r ∈ H, r.ok h) ∧ ∀ (i j : Nat) r s, i ≠ j → H[i]? = some r → H[j]? = some s → ∀ b ∈ r.bl, b ∉ s.bl, fun h h' hb hk =>
    ⟨fun r hr => r.loc h h' (fun b hbr => hb b (List.mem_flatMap.2 ⟨r, hr, hbr⟩)) (hk.1 r hr), hk.2⟩⟩
section
variable {w w' : World} {M M' : Hp} {X : Fr} {H H' : List Rs} {r r' : Rs} {i : Nat}
theorem SH.bun (S : SH w M X H) : SH w M X [Rs.bun H] := by
  refine ⟨S.m, S.x, S.mx, fun s hs => ?_, fun s hs b hb => ?_, fun i j r s hij hi hj b hb => ?_, S.like⟩
  · rw [List.mem_singleton] at hs; subst hs; exact ⟨S.ok, S.ap⟩
  · rw [List.mem_singleton] at hs; subst hs
    obtain ⟨r, hr, hbr⟩ := List.mem_flatMap.1 hb
    exact S.bl r hr b hbr
  · have h1 := (List.getElem?_eq_some_iff.1 hi).1
    have h2 := (List.getElem?_eq_some_iff.1 hj).1
    simp at h1 h2; omega
theorem SH.unbun (S : SH w M X [Rs.bun H]) : SH w M X H := by
  obtain ⟨h1, h2⟩ := S.ok (Rs.bun H) (by simp)
  exact ⟨S.m, S.x, S.mx, h1, fun r hr b hb => S.bl (Rs.bun H) (by simp) b (List.mem_flatMap.2 ⟨r, hr, hb⟩), h2, S.like⟩
end
namespace InF
structure Ctx where
  Q : Exit → Act → World → Prop
  r : Option Nat
def Ctx.F (C : Ctx) : Fence := match C.r with
  | none => Fence.wide
  | some l => Fence.wide.inRound l
def post (P : Program) (C : Ctx) : List K → Exit → Act → World → Prop
  | [] => C.Q
  | .thn c :: s => Exit.then (c.wpIn C.F 0 P (post P C s)) (post P C s)
  | .blk id :: s => Exit.inBlock id (post P C s)
  | .lp I :: s => Exit.then I (post P C s)
  | .jmp _ _ :: s => post P C s
section
variable {P : Program} {n : Nat} {C : Ctx} {c : Code} {s : List K} {L : List (Nat × Value)} {w : World}
end
section
variable {P : Program} {n : Nat} {C : Ctx} {c : Code} {s : List K} {L : List (Nat × Value)} {w : World} {M : Hp} {X : Fr} {H : List Rs}
end
end InF
end Go.Proofs.Ytomcgmialkdcbaa
namespace Go.Proofs.Ytomcgmialkdcbaa
open Go.ChangeShapes Go.WideShapes Go.ChangeAt Go.RowKit
/-- No block stands in two things. -/
def apartL (H : List Rs) : Prop := H.Pairwise fun r s => ∀ b ∈ r.bl, b ∉ s.bl
theorem apart_iff {H : List Rs} : apartL H ↔ ∀ (i j : Nat) r s, i ≠ j → H[i]? = some r → H[j]? = some s → ∀ b ∈ r.bl, b ∉ s.bl := by
  unfold apartL
  rw [List.pairwise_iff_getElem]
  constructor
  · intro h i j r s hij hi hj b hb hbs
    obtain ⟨i1, e1⟩ := List.getElem?_eq_some_iff.1 hi
    obtain ⟨j1, e2⟩ := List.getElem?_eq_some_iff.1 hj
    rcases Nat.lt_or_ge i j with h1 | h1
    · exact h i j i1 j1 h1 b (by rw [e1]; exact hb) (by rw [e2]; exact hbs)
    · exact h j i j1 i1 (by omega) b (by rw [e2]; exact hbs) (by rw [e1]; exact hb)
  · intro h i j hi hj hij
    exact h i j _ _ (by omega) (List.getElem?_eq_getElem hi) (List.getElem?_eq_getElem hj)
section
variable {w : World} {M : Hp} {X : Fr} {A B H H' : List Rs}
theorem SH.perm (S : SH w M X H) (h : H.Perm H') : SH w M X H' :=
  ⟨S.m, S.x, S.mx, fun r hr => S.ok r (h.mem_iff.2 hr), fun r hr => S.bl r (h.mem_iff.2 hr), apart_iff.1 ((h.pairwise_iff (fun {_ _} hrs b hb hbr => hrs b hbr hb)).1 (apart_iff.2 S.ap)), S.like⟩
theorem SH.bunC (S : SH w M X (A ++ B)) : SH w M X (Rs.bun A :: B) := by
  have hap := apart_iff.2 S.ap
  obtain ⟨h1, h2, h3⟩ := List.pairwise_append.1 hap
  refine ⟨S.m, S.x, S.mx, fun r hr => ?_, fun r hr b hb => ?_, apart_iff.1 (List.pairwise_cons.2 ⟨fun s hs b hb => ?_, h2⟩), S.like⟩
  · rcases List.mem_cons.1 hr with rfl | hr
    · exact ⟨fun r hr => S.ok r (by simp [hr]), apart_iff.1 h1⟩
    · exact S.ok r (by simp [hr])
  · rcases List.mem_cons.1 hr with rfl | hr
    · obtain ⟨q, hq, hb⟩ := List.mem_flatMap.1 hb
      exact S.bl q (by simp [hq]) b hb
    · exact S.bl r (by simp [hr]) b hb
  · obtain ⟨q, hq, hb⟩ := List.mem_flatMap.1 hb
    exact h3 q hq s hs b hb
theorem SH.unbunC (S : SH w M X (Rs.bun A :: B)) : SH w M X (A ++ B) := by
  obtain ⟨hok, hap⟩ := S.ok (Rs.bun A) (by simp)
  obtain ⟨h1, h2⟩ := List.pairwise_cons.1 (apart_iff.2 S.ap)
  refine ⟨S.m, S.x, S.mx, fun r hr => ?_, fun r hr b hb => ?_, apart_iff.1 (List.pairwise_append.2 ⟨apart_iff.2 hap, h2, fun r hr s hs b hb => h1 s hs b (List.mem_flatMap.2 ⟨r, hr, hb⟩)⟩), S.like⟩
  · rcases List.mem_append.1 hr with hr | hr
    · exact hok r hr
    · exact S.ok r (by simp [hr])
  · rcases List.mem_append.1 hr with hr | hr
    · exact S.bl (Rs.bun A) (by simp) b (List.mem_flatMap.2 ⟨r, hr, hb⟩)
    · exact S.bl r (by simp [hr]) b hb
end
namespace InF
section
variable {P : Program} {n : Nat} {C : Ctx} {c : Code} {s : List K} {L : List (Nat × Value)} {w : World} {M : Hp} {X : Fr} {H : List Rs}
end
end InF
end Go.Proofs.Ytomcgmialkdcbaa
namespace Go.Proofs.Ytomcgmialkdcbaa
open Go.ChangeShapes Go.WideShapes Go.ChangeAt Go.RowKit
section
variable {P : Program} {o : Oper} {L : List (Nat × Value)} {w : World} {n d : Nat} {Kt : List (Nat × Value) → World → Prop} {M : Hp} {X : Fr} {H : List Rs} {i : Nat} {r : Rs}
theorem SH.less (S : SH w M X H) (hi : nth H i = some r) : SH w M X (H.set i Rs.emp) := S.step hi rfl (Like.refl w) (fun _ _ _ => rfl) trivial (fun b hb => by cases hb)
end
end Go.Proofs.Ytomcgmialkdcbaa
namespace Go.Proofs.Ytomcgmialkdcbaa
open Go.ChangeShapes Go.WideShapes Go.ChangeAt Go.RowKit
section
variable {P : Program} {o : Oper} {L : List (Nat × Value)} {w w' : World} {x y z : Operand} {t t' T E : TypeId} {a b : Int} {v u : Value} {n d : Nat} {Kt : List (Nat × Value) → World → Prop} {M M' : Hp} {X : Fr} {H H' : List Rs} {i g : Nat} {l : List Value}
def alv (v : Value) (lo n : Nat) : Value := match v with
  | .slice A _ c => .slice (if c = lo then A else A.map (·.add lo)) n (c - lo)
  | u => u
theorem SH.sl_ {α : Type} {C : Cd α} {xs : List α} {rv : Value} (S : SH w M X H) (hi : nth H i = some (Rs.row C rv xs)) : ∃ A c, rv = .slice A xs.length c ∧ xs.length ≤ c := S.sl hi
theorem run_aliasD {xs : List Int} {rv : Value} {lx : Operand} (k : Nat) (hop : o.op = .slice T x (some lx) none none) (hxx : oev L x = some rv) (hlo : oev L lx = some (.int .i64 a)) (hT : SlOf P T cdInt) (hv : ∃ A c, rv = .slice A xs.length c ∧ xs.length ≤ c) (ha : a = (k : Int)) (hk : k ≤ xs.length) : Run P o L w (alv rv k (xs.length - k)) w := by
  obtain ⟨zv, h1, h2, h3, h4, h5⟩ := hT
  obtain ⟨inf, hinf, hz, hs, h8⟩ := info_parts h2
  subst ha
  obtain ⟨A, c, rfl, hc⟩ := hv
  have := run_sliceI (P := P) (w := w) (lo := k) (hi := xs.length) hop hxx (lv := some (.int .i64 (k : Int))) (hv := none) (size := cdInt.k) (by simpa using hlo) rfl h1 (by rw [hinf]; simp [hs]) (.inr rfl) (.inl ⟨rfl, rfl⟩) hk hc
  rw [show k * cdInt.k = k from Nat.mul_one k] at this
  exact this
theorem set_same {α : Type} {H : List α} {i : Nat} {r : α} (h : nth H i = some r) : H.set i r = H := by
  rw [nth_eq] at h
  apply List.ext_getElem?
  intro j
  rw [List.getElem?_set]
  split
  · rename_i e
    subst e
    have hl : i < H.length := (List.getElem?_eq_some_iff.1 h).1
    rw [if_pos hl, h]
  · rfl
theorem alv_in {g len cap lo n : Nat} (h : lo < cap) : alv (.slice (some ⟨g, 0, none⟩) len cap) lo n = .slice (some ⟨g, lo, none⟩) n (cap - lo) := by
  unfold alv
  simp only [if_neg (show ¬ cap = lo by omega), Option.map_some]
  congr 2
  unfold Addr.add
  split
  · rename_i e; subst e; rfl
  · simp
end
end Go.Proofs.Ytomcgmialkdcbaa
namespace Go.Proofs.Ytomcgmialkdcbaa
open Go.ChangeShapes Go.WideShapes Go.ChangeAt Go.RowKit
section
variable {P : Program} {o : Oper} {L : List (Nat × Value)} {w : World} {x y : Operand} {t T : TypeId} {a : Int} {M : Hp} {X : Fr} {H : List Rs} {i lo n : Nat}
theorem run_lenAl {α : Type} {C : Cd α} {xs : List α} {rv : Value} {ca : Call} {ops : List Operand} {ts : List TypeId} (hop : o.op = .call ca) (hca : ca.callee = .builtin .len) (hxs : ca.args = ops.toArray) (hts : ca.argTypes = ts.toArray) (hx : oevs L ops = some [alv rv lo n]) (ht : nth ts 0 = some t) (hT : SlOf P t C) (S : SH w M X H) (hi : nth H i = some (Rs.row C rv xs)) : Run P o L w (.int .i64 (n : Int)) w := by
  obtain ⟨A, c, rfl, _⟩ := S.sl hi
  obtain ⟨z, h1, _⟩ := hT
  exact run_len hop hca hxs hts hx ht h1
theorem run_indexAl {xs : List Int} {rv : Value} (e : Nat) (hop : o.op = .indexAddr T x y) (hx : oev L x = some (alv rv lo n)) (hy : oev L y = some (.int .i64 a)) (hT : SlOf P T cdInt) (S : SH w M X H) (hi : nth H i = some (Rs.row cdInt rv xs))
    (ha : a = (e : Int)) (he : e < n) (hn : lo + n ≤ xs.length) : Run P o L w (.pointer (some ⟨rb rv, (lo + e) * cdInt.k, none⟩)) w := by
  obtain ⟨A, c, hs, hc⟩ := S.sl hi
  obtain ⟨cap, hv, _⟩ := S.some_ hi (by omega)
  obtain ⟨z, h1, h2, _⟩ := hT
  obtain ⟨inf, hi, _, hs', _⟩ := info_parts h2
  have hcc : c = cap := by have := hs.symm.trans hv; injection this
  subst hcc
  have hrb : rb (.slice (some ⟨rb rv, 0, none⟩) xs.length c) = rb rv := rfl
  rw [hv, alv_in (by omega)] at hx
  rw [hv, hrb]
  have := run_indexAddr (P := P) (w := w) hop hx hy h1 (k := cdInt.k) (by rw [hi]; simp [hs']) ha he rfl
  rw [show (lo + e) * cdInt.k = lo + e * cdInt.k from by show (lo + e) * 1 = lo + e * 1; omega]
  exact this
end
end Go.Proofs.Ytomcgmialkdcbaa
namespace Go.Proofs.Ytomcgmialkdcbaa
open Go.ChangeShapes Go.WideShapes Go.ChangeAt Go.RowKit
theorem PL.mem_ {n : Nat} {p : List Int} (h : PL n p) {i : Nat} (h1 : 1 ≤ i) (h2 : i ≤ n) : (i : Int) ∈ p := by
 obtain ⟨a, b, c⟩ := h.pl h1 h2
 rw [← c]; exact ga_mem (by rw [h.len]; omega)
theorem PL.mem2_ {n : Nat} {p : List Int} (h : PL n p) {i : Nat} (h1 : 1 ≤ i) (h2 : i < n) : (i : Int) + 1 ∈ p := by
 have := h.mem_ (i := i + 1) (by omega) h2
 rwa [show ((i + 1 : Nat) : Int) = (i : Int) + 1 by omega] at this
/-- All but the first turned round. -/
def revL (xs : List Int) : List Int := (List.range xs.length).map fun m => if m = 0 then ga xs 0 else ga xs (xs.length - m)
theorem revL_len (xs : List Int) : (revL xs).length = xs.length := by simp [revL]
theorem revL_ga (xs : List Int) {m : Nat} (h : m < xs.length) : ga (revL xs) m = if m = 0 then ga xs 0 else ga xs (xs.length - m) := by
 rw [ga_eq (by rw [revL_len]; exact h)]; simp [revL]
theorem revL_id (n : Nat) : revL (idL n) = delL n := ga_ext (by rw [revL_len, idL_len, delL, mkP_len]) fun i hi => by
 rw [revL_len] at hi
 rw [revL_ga _ hi]
 rw [idL_len] at hi
 by_cases c : i = 0
 ·subst c; rw [if_pos rfl, idL_ga (Nat.zero_le _), delL, mkP_z]; rfl
 ·rw [if_neg c, idL_len, idL_ga (by omega), delL_ga (by omega) (by omega)]; omega
/-- The two ends of what is still to be turned round. -/
def rvA (xs : List Int) (k : Nat) (acc : List Int) : Prop := acc.length = xs.length ∧ ∀ m, m < xs.length → ga acc m = if 1 ≤ m ∧ (m ≤ k ∨ xs.length - m ≤ k) then ga xs (xs.length - m) else ga xs m
theorem rvA.zero (xs : List Int) : rvA xs 0 xs := ⟨rfl, fun m hm => by rw [if_neg (by omega)]⟩
theorem rvA.step {xs acc : List Int} {k : Nat} (h : rvA xs k acc) (hk : 2 * k + 2 < xs.length) : rvA xs (k + 1) ((acc.set (1 + k) (ga acc (1 + (xs.length - 2 - k)))).set (1 + (xs.length - 2 - k)) (ga acc (1 + k))) := by
 obtain ⟨hl, hg⟩ := h
 refine ⟨by simp [hl], fun m hm => ?_⟩
 rw [two_set (show 1 + k ≠ 1 + (xs.length - 2 - k) by omega) (show 1 + k < acc.length by omega) (show 1 + (xs.length - 2 - k) < acc.length by omega), hg (1 + (xs.length - 2 - k)) (by omega), hg (1 + k) (by omega), hg _ hm, if_neg (show ¬ (1 ≤ 1 + (xs.length - 2 - k) ∧ (1 + (xs.length - 2 - k) ≤ k ∨ xs.length - (1 + (xs.length - 2 - k)) ≤ k)) by omega), if_neg (show ¬ (1 ≤ 1 + k ∧ (1 + k ≤ k ∨ xs.length - (1 + k) ≤ k)) by omega)]
 by_cases c1 : m = 1 + k
 ·subst c1; rw [if_pos rfl, if_pos (by omega)]; congr 1; omega
 ·rw [if_neg c1]
  by_cases c2 : m = 1 + (xs.length - 2 - k)
  ·subst c2; rw [if_pos rfl, if_pos (by omega)]; congr 1; omega
  ·rw [if_neg c2]
   by_cases c3 : 1 ≤ m ∧ (m ≤ k ∨ xs.length - m ≤ k)
   ·rw [if_pos c3, if_pos (by omega)]
   ·rw [if_neg c3, if_neg (by omega)]
theorem rvA.done {xs acc : List Int} {k : Nat} (h : rvA xs k acc) (hk : xs.length ≤ 2 * k + 2) : acc = revL xs := ga_ext (by rw [revL_len, h.1]) fun i hi => by
 rw [h.1] at hi
 rw [h.2 i hi, revL_ga _ hi]
 by_cases c : i = 0
 ·subst c; rw [if_pos rfl, if_neg (by omega)]
 ·rw [if_neg c]
  split
  ·rfl
  ·congr 1; omega
noncomputable def ReverseP_n0 : Code := Try.f35.body.getD .skip
noncomputable def ReverseP_n1 : Code := cL ReverseP_n0
noncomputable def ReverseP_n2 : Code := cR ReverseP_n0
noncomputable def ReverseP_n3 : Code := cL ReverseP_n2
noncomputable def ReverseP_n4 : Code := cL ReverseP_n3
noncomputable def ReverseP_n5 : Code := cL ReverseP_n4
noncomputable def ReverseP_n6 : Code := cR ReverseP_n4
noncomputable def ReverseP_n7 : Code := cL ReverseP_n5
noncomputable def ReverseP_n8 : Code := cR ReverseP_n5
noncomputable def ReverseP_n9 : Code := cL ReverseP_n8
noncomputable def ReverseP_n10 : Code := cR ReverseP_n8
noncomputable def ReverseP_n11 : Code := cL ReverseP_n6
noncomputable def ReverseP_n12 : Code := cR ReverseP_n6
noncomputable def ReverseP_n13 : Code := cL ReverseP_n11
set_option maxRecDepth 10000 in
theorem ReverseP_w {w : World} {M : Hp} {X : Fr} (vxs : Value) (xs : List Int) (hx0 : 1 ≤ xs.length) (hxl : xs.length ≤ 100) (S : SH w M X [Rs.row cdInt vxs xs]) : C1 Try.prog 35 [alv vxs 1 (xs.length - 1)] w M X (fun u M' r' => u = tup [] ∧ M' = M ∧ r' = Rs.row cdInt vxs (revL xs)) := by
 unfold C1
 refine calls_in (b := ReverseP_n0) Try.func35 rfl Try.ntmps35 rfl (fun C hC => (ws_sub [(0, _)] ⟨rfl, trivial⟩ (ws_seqN ReverseP_n1 ReverseP_n2 rfl rfl rfl (ws_region rfl (wlm 0 1 rfl rfl rfl rfl rfl rfl rfl ?_)))))
 refine wlo 1 2 rfl rfl rfl (wo_run rfl rfl (run_lenAl (C := cdInt) (lo := 1) (n := (xs.length - 1)) (i := 0) rfl rfl rfl rfl rfl rfl sl38 S rfl) (wlo 2 3 rfl rfl rfl (wo_run rfl rfl (run_sub rfl rfl rfl (by first | omega | (simp only [lens]; omega))) ?_)))
 refine wla 3 4 rfl rfl rfl rfl rfl rfl rfl (wl_eq 6 (.int .i64 ((xs.length : Int) - 2 - ((0 : Nat) : Int))) rfl (int_eq (by omega)) ?_)
 refine wla 4 5 rfl rfl rfl rfl rfl rfl rfl (wl_end rfl (nmk [0, 2, 3] rfl (nm_thn (ws_blockN ReverseP_n3 0 rfl rfl rfl ?_))))
 refine ws_loopE (fun mx_ ax_ wx_ => ∃ (k : Nat) (acc : List Int), mx_ = xs.length - k ∧ Env 28 [(0, alv vxs 1 (xs.length - 1)), (2, .int .i64 (k : Int)), (3, .int .i64 ((xs.length : Int) - 2 - (k : Int)))] ax_ ∧ SH wx_ M X [Rs.row cdInt vxs acc] ∧ k ≤ xs.length ∧ acc.length = xs.length ∧ rvA xs k acc) rfl ?_ ?_
 ·intro ax_ hax_
  refine ⟨_, ⟨0, xs, rfl, hax_.sub ⟨rfl, rfl, rfl, trivial⟩, S.pick [0] [_] (by decide) ⟨rfl, trivial⟩, ?hq1f0, ?hq1f1, ?hq1f2⟩⟩
  case hq1f0 => omega
  case hq1f1 => rfl
  case hq1f2 => exact rvA.zero xs
 ·rintro m1 a1 w1 ⟨k, acc, rfl, he1, S1, hk, hal, hrv⟩
  clear S
  refine ws_in he1 (c := ReverseP_n4) rfl ?_
  clear he1 a1
  refine ws_seqN ReverseP_n5 ReverseP_n6 rfl rfl rfl (ws_seqN ReverseP_n7 ReverseP_n8 rfl rfl rfl (ws_region rfl (wlm 0 1 rfl rfl rfl rfl rfl rfl rfl (wlm 1 2 rfl rfl rfl rfl rfl rfl rfl ?_))))
  refine wlo 2 3 rfl rfl rfl (wo_run rfl rfl (run_lss rfl rfl rfl) (wl_end rfl (nmk [0, 2, 3, 9] rfl (nm_thn ?_))))
  refine ws_condN ReverseP_n9 ReverseP_n10 rfl rfl rfl rfl (fun hb9 => ?_) (fun hb9 => ?_)
  ·replace hb9 := of_decide_eq_true hb9
   refine ws_skip rfl (nmk [0, 2, 3] rfl (nm_thn (ws_seqN ReverseP_n11 ReverseP_n12 rfl rfl rfl (ws_blockN ReverseP_n13 1 rfl rfl rfl ?_))))
   refine ws_eq 3 (.int .i64 ((xs.length - 2 - k : Nat) : Int)) rfl (int_eq (by omega)) ?_
   refine ws_draw rfl (by kernel_rfl) S1 16 rfl ?_
   clear S1
   refine wap 0 15 rfl (by kernel_rfl) rfl rfl rfl (fun w2 => run_move rfl rfl) ?_
   refine wap 1 14 rfl (by kernel_rfl) rfl rfl rfl (fun w3 => run_move rfl rfl) ?_
   refine wap 2 13 rfl (by kernel_rfl) rfl rfl rfl (fun w4 => run_move rfl rfl) ?_
   refine wap 3 12 rfl (by kernel_rfl) rfl rfl rfl (fun w5 => run_move rfl rfl) ?_
   refine wap 4 11 rfl (by kernel_rfl) rfl rfl rfl (fun w6 => run_move rfl rfl) ?_
   refine wap 5 10 rfl (by kernel_rfl) rfl rfl rfl (fun w7 => run_move rfl rfl) ?_
   refine wat 6 9 rfl (by kernel_rfl) rfl rfl rfl (fun M7 N7 w8 hle8 S8 => .inl (run_indexAl (lo := 1) (n := (xs.length - 1)) (i := 0) (xs.length - 2 - k) rfl rfl rfl sl38 S8.suf rfl (by first | rfl | omega) (by first | omega | (simp only [lens]; omega)) (by first | omega | (simp only [List.length_set]; omega)))) ?_
   refine wat 7 8 rfl (by kernel_rfl) rfl rfl rfl (fun M8 N8 w9 hle9 S9 => .inl (run_load1 rfl rfl Try.underlying3 rfl (S9.suf.rowc (i := 0) (e := 1 + (xs.length - 2 - k)) (j := 0) rfl (by first | omega | (simp only [lens]; omega)) rfl rfl))) ?_
   refine wap 8 7 rfl (by kernel_rfl) rfl rfl rfl (fun w10 => run_move rfl rfl) ?_
   refine wap 9 6 rfl (by kernel_rfl) rfl rfl rfl (fun w11 => run_move rfl rfl) ?_
   refine wat 10 5 rfl (by kernel_rfl) rfl rfl rfl (fun M11 N11 w12 hle12 S12 => .inl (run_indexAl (lo := 1) (n := (xs.length - 1)) (i := 0) k rfl rfl rfl sl38 S12.suf rfl (by first | rfl | omega) (by first | omega | (simp only [lens]; omega)) (by first | omega | (simp only [List.length_set]; omega)))) ?_
   refine wat 11 4 rfl (by kernel_rfl) rfl rfl rfl (fun M12 N12 w13 hle13 S13 => .inl (run_load1 rfl rfl Try.underlying3 rfl (S13.suf.rowc (i := 0) (e := 1 + k) (j := 0) rfl (by first | omega | (simp only [lens]; omega)) rfl rfl))) ?_
   refine wat 12 3 rfl (by kernel_rfl) rfl rfl rfl (fun M13 N13 w14 hle14 S14 => .inl (run_indexAl (lo := 1) (n := (xs.length - 1)) (i := 0) k rfl rfl rfl sl38 S14.suf rfl (by first | rfl | omega) (by first | omega | (simp only [lens]; omega)) (by first | omega | (simp only [List.length_set]; omega)))) ?_
   refine wa_only (i := 13) 2 rfl (by kernel_rfl) rfl rfl (fun w16 S16 => ?_)
   refine (wo_storeR (C := cdInt) (i := 0) (e := 1 + k) (j := 0) (us := [_]) (H' := [_]) (ga acc (1 + (xs.length - 2 - k))) rfl rfl S16 rfl (by first | omega | (simp only [lens]; omega)) rfl rfl rfl sz3 rfl rfl rfl rfl ?_)
   intro w17 S17; clear S16
   refine LeftW.turn (by kernel_rfl) S17 ?_; clear S17
   change WA _ _ _ _ _ _ _ _ _ _ _ _ [_]
   refine wat 14 1 rfl (by kernel_rfl) rfl rfl rfl (fun M15 N15 w18 hle16 S18 => .inl (run_indexAl (lo := 1) (n := (xs.length - 1)) (i := 0) (xs.length - 2 - k) rfl rfl rfl sl38 S18.suf rfl (by first | rfl | omega) (by first | omega | (simp only [lens]; omega)) (by first | omega | (simp only [List.length_set]; omega)))) ?_
   refine wa_only (i := 15) 0 rfl (by kernel_rfl) rfl rfl (fun w20 S20 => ?_)
   refine (wo_storeR (C := cdInt) (i := 0) (e := 1 + (xs.length - 2 - k)) (j := 0) (us := [_]) (H' := [_]) (ga acc (1 + k)) rfl rfl S20 rfl (by first | omega | (simp only [lens]; omega)) rfl rfl rfl sz3 rfl rfl rfl rfl ?_)
   intro w21 S21; clear S20
   refine LeftW.turn (by kernel_rfl) S21 ?_; clear S21
   change WA _ _ _ _ _ _ _ _ _ _ _ _ [_]
   refine wa_end (by kernel_rfl) (fun w22 S22 => ?_)
   refine nm_blk (nmk [0, 2, 3] rfl (nm_thn (ws_region rfl (wlm 0 1 rfl rfl rfl rfl rfl rfl rfl ?_))))
   refine wlo 1 2 rfl rfl rfl (wo_run rfl rfl (run_add rfl rfl rfl (by first | omega | (simp only [lens]; omega))) ?_)
   refine wlm 2 3 rfl rfl rfl rfl rfl rfl rfl (wlo 3 4 rfl rfl rfl (wo_run rfl rfl (run_sub rfl rfl rfl (by first | omega | (simp only [lens]; omega))) ?_))
   refine wla 4 5 rfl rfl rfl rfl rfl rfl rfl (wl_eq 13 (.int .i64 ((xs.length : Int) - 2 - ((k + 1 : Nat) : Int))) rfl (int_eq (by omega)) ?_)
   refine wla 5 6 rfl rfl rfl rfl rfl rfl rfl (wl_end rfl (nm_lp ?_))
   intro ax_ hax_
   refine ⟨_, ?hq2m, ⟨k + 1, _, rfl, hax_.sub ⟨rfl, rfl, rfl, trivial⟩, S22.pick [0] [_] (by decide) ⟨rfl, trivial⟩, ?hq2f0, ?hq2f1, ?hq2f2⟩⟩
   case hq2f0 => omega
   case hq2f1 => simpa using hal
   case hq2f2 => exact hrv.step (by omega)
   case hq2m => omega
  ·replace hb9 := of_decide_eq_false hb9
   refine ws_exit rfl rfl (nm_end hC [] rfl trivial ?_)
   exact ⟨_, rfl, _, _, Hp.le_refl _, S1.pick [0] [_] (by decide) ⟨rfl, trivial⟩, ⟨rfl, rfl, by rw [hrv.done (by omega)]⟩⟩
noncomputable def delta_n0 : Code := Try.f27.body.getD .skip
noncomputable def delta_n1 : Code := cL delta_n0
noncomputable def delta_n2 : Code := cR delta_n0
noncomputable def delta_n3 : Code := cL delta_n2
noncomputable def delta_n4 : Code := cR delta_n2
noncomputable def delta_n5 : Code := cL delta_n4
noncomputable def delta_n6 : Code := cR delta_n4
noncomputable def delta_n7 : Code := cL delta_n6
noncomputable def delta_n8 : Code := cR delta_n6
set_option maxRecDepth 10000 in
theorem delta_o {w : World} {M : Hp} {X : Fr} (n : Nat) (hn : n ≤ 6) (hn2 : 1 ≤ n) (S : SH w M X []) : Co Try.prog 27 [.int .i64 (n : Int)] w M X (fun u N => N = [Rs.row cdInt u (delL n)]) := by
 unfold Co
 have hil := idL_len n
 refine calls_in (b := delta_n0) Try.func27 rfl Try.ntmps27 rfl (fun C hC => (ws_sub [(0, _)] ⟨rfl, trivial⟩ (ws_seqN delta_n1 delta_n2 rfl rfl rfl (ws_region rfl (wla 0 1 rfl rfl rfl rfl rfl rfl rfl ?_)))))
 refine wl_end rfl (nmk [0] rfl (nm_thn (ws_seqN delta_n3 delta_n4 rfl rfl rfl (ws_region rfl ?_))))
 refine wlm 0 1 rfl rfl rfl rfl rfl rfl rfl (wlo 1 2 rfl rfl rfl (wo_co rfl rfl rfl rfl rfl rfl rfl cf24 S (identity_o n (by omega) S.lend) ?_))
 intro vw1 w1 Nw1 S1 hRw1; clear S
 subst hRw1
 change SH _ _ _ [_] at S1
 refine wla 2 3 rfl rfl rfl rfl rfl rfl rfl (wl_end rfl (nmk [3] rfl (nm_thn (ws_seqN delta_n5 delta_n6 rfl rfl rfl ?_))))
 refine ws_region rfl (wlm 0 1 rfl rfl rfl rfl rfl rfl rfl ?_)
 have hal9 := S1.sl_ (i := 0) rfl
 refine wlo 1 2 rfl rfl rfl (wo_run rfl rfl (run_aliasD (xs := (idL n)) 1 rfl rfl rfl sl38 hal9 (by first | rfl | omega) ((by first | omega | (simp only [lens]; omega)))) ?_)
 refine wlo 2 3 rfl rfl rfl (wo_c1 rfl rfl rfl rfl rfl rfl rfl cf35 S1 (i := 0) rfl (ReverseP_w vw1 (idL n) (by (try simp only [idL_len]); omega) (by (try simp only [idL_len]); omega) (S1.lend1 (i := 0) rfl)) ?_)
 rintro vw2 w2 _ _ - S2 ⟨rfl, rfl, rfl⟩; clear S1
 change SH _ _ _ [_] at S2
 refine wl_end rfl (nmk [3] rfl (nm_thn (ws_seqN delta_n7 delta_n8 rfl rfl rfl (ws_region rfl ?_))))
 refine wlm 0 1 rfl rfl rfl rfl rfl rfl rfl (wla 1 2 rfl rfl rfl rfl rfl rfl rfl (wl_end rfl (nmk [2] rfl (nm_thn ?_))))
 rw [revL_id] at S2
 refine ws_ret hC [_] rfl rfl ⟨rfl, trivial⟩ ?_
 exact ⟨_, rfl, _, S2.pick [0] [_] (by decide) ⟨rfl, trivial⟩, rfl⟩
noncomputable def flipped_n0 : Code := Try.f26.body.getD .skip
noncomputable def flipped_n1 : Code := cL flipped_n0
noncomputable def flipped_n2 : Code := cR flipped_n0
noncomputable def flipped_n3 : Code := cL flipped_n2
noncomputable def flipped_n4 : Code := cR flipped_n2
noncomputable def flipped_n5 : Code := cL flipped_n4
noncomputable def flipped_n6 : Code := cR flipped_n4
noncomputable def flipped_n7 : Code := cL flipped_n6
noncomputable def flipped_n8 : Code := cR flipped_n6
noncomputable def flipped_n9 : Code := cL flipped_n7
noncomputable def flipped_n10 : Code := cR flipped_n7
noncomputable def flipped_n11 : Code := cL flipped_n10
noncomputable def flipped_n12 : Code := cL flipped_n11
noncomputable def flipped_n13 : Code := cL flipped_n12
noncomputable def flipped_n14 : Code := cR flipped_n12
noncomputable def flipped_n15 : Code := cL flipped_n13
noncomputable def flipped_n16 : Code := cR flipped_n13
noncomputable def flipped_n17 : Code := cL flipped_n16
noncomputable def flipped_n18 : Code := cR flipped_n16
noncomputable def flipped_n19 : Code := cL flipped_n14
noncomputable def flipped_n20 : Code := cR flipped_n14
noncomputable def flipped_n21 : Code := cL flipped_n19
noncomputable def flipped_n22 : Code := cL flipped_n8
noncomputable def flipped_n23 : Code := cR flipped_n8
set_option maxRecDepth 10000 in
theorem flipped_o {w : World} {M : Hp} {X : Fr} (p : List Int) {pA : Option Addr} {pc : Nat} (hp : RdA cdInt (M.un X.h) pA pc p) {n : Nat} (hP : PL n p) (hn : n ≤ 6) (S : SH w M X []) : Co Try.prog 26 [.slice pA p.length pc] w M X (fun u N => N = [Rs.row cdInt u (flipL n p)]) := by
 unfold Co
 have rmhp : p.length * 8 ≤ 140737488355328 := hp.room
 have hpl := hP.len
 have hil := idL_len n
 refine calls_in (b := flipped_n0) Try.func26 rfl Try.ntmps26 rfl (fun C hC => (ws_sub [(0, _)] ⟨rfl, trivial⟩ (ws_seqN flipped_n1 flipped_n2 rfl rfl rfl (ws_region rfl (wla 0 1 rfl rfl rfl rfl rfl rfl rfl ?_)))))
 refine wl_end rfl (nmk [0] rfl (nm_thn (ws_seqN flipped_n3 flipped_n4 rfl rfl rfl (ws_region rfl ?_))))
 refine wlm 0 1 rfl rfl rfl rfl rfl rfl rfl (wlo 1 2 rfl rfl rfl (wo_run rfl rfl (run_len rfl rfl rfl rfl rfl rfl Try.underlying38) (wlo 2 3 rfl rfl rfl (wo_run rfl rfl (run_sub rfl rfl rfl (by first | omega | (simp only [lens]; omega))) ?_))))
 refine wla 3 4 rfl rfl rfl rfl rfl rfl rfl (wl_end rfl (nmk [0, 3] rfl (nm_thn (ws_seqN flipped_n5 flipped_n6 rfl rfl rfl ?_))))
 refine ws_region rfl (wl_eq 3 (.int .i64 (n : Int)) rfl (int_eq (by omega)) ?_)
 refine wlm 0 1 rfl rfl rfl rfl rfl rfl rfl (wlo 1 2 rfl rfl rfl (wo_co rfl rfl rfl rfl rfl rfl rfl cf24 S (identity_o n (by omega) S.lend) ?_))
 intro vw1 w1 Nw1 S1 hRw1; clear S
 subst hRw1
 change SH _ _ _ [_] at S1
 refine wla 2 3 rfl rfl rfl rfl rfl rfl rfl (wl_end rfl (nmk [0, 3, 4] rfl (nm_thn (ws_seqN flipped_n7 flipped_n8 rfl rfl rfl ?_))))
 refine ws_seqN flipped_n9 flipped_n10 rfl rfl rfl (ws_region rfl (wla 0 1 rfl rfl rfl rfl rfl rfl rfl (wl_end rfl (nm_thn ?_))))
 refine ws_blockN flipped_n11 0 rfl rfl rfl ?_
 refine ws_loopE (fun mx_ ax_ wx_ => ∃ (k : Nat) (acc : List Int) (vro : Value), mx_ = n - k ∧ Env 30 [(0, .slice pA p.length pc), (3, .int .i64 (n : Int)), (4, vro), (5, .int .i64 ((k : Int) + 1))] ax_ ∧ SH wx_ M X [Rs.row cdInt vro acc] ∧ k ≤ n ∧ acc.length = n + 1 ∧ (∀ j, j ≤ n → ga acc j = if 1 ≤ j ∧ j ≤ k then (n : Int) + 1 - ga p (n + 1 - j) else (j : Int))) rfl ?_ ?_
 ·intro ax_ hax_
  refine ⟨_, ⟨0, _, _, rfl, hax_.sub ⟨rfl, rfl, rfl, rfl, trivial⟩, S1.pick [0] [_] (by decide) ⟨rfl, trivial⟩, ?hq1f0, ?hq1f1, ?hq1f2⟩⟩
  case hq1f0 => omega
  case hq1f1 => exact hil
  case hq1f2 => (intro j hj; rw [if_neg (by omega), idL_ga hj])
 ·rintro m1 a1 w2 ⟨k, acc, vro, rfl, he1, S2, hk, hal, hg⟩
  clear S1
  refine ws_in he1 (c := flipped_n12) rfl ?_
  clear he1 a1
  refine ws_seqN flipped_n13 flipped_n14 rfl rfl rfl (ws_seqN flipped_n15 flipped_n16 rfl rfl rfl (ws_region rfl (wlm 0 1 rfl rfl rfl rfl rfl rfl rfl (wlm 1 2 rfl rfl rfl rfl rfl rfl rfl ?_))))
  refine wlo 2 3 rfl rfl rfl (wo_run rfl rfl (run_leq rfl rfl rfl) (wl_end rfl (nmk [0, 3, 4, 5, 13] rfl (nm_thn ?_))))
  refine ws_condN flipped_n17 flipped_n18 rfl rfl rfl rfl (fun hb13 => ?_) (fun hb13 => ?_)
  ·replace hb13 := of_decide_eq_true hb13
   refine ws_skip rfl (nmk [0, 3, 4, 5] rfl (nm_thn (ws_seqN flipped_n19 flipped_n20 rfl rfl rfl (ws_blockN flipped_n21 1 rfl rfl rfl ?_))))
   refine ws_region rfl (wlm 0 1 rfl rfl rfl rfl rfl rfl rfl (wlm 1 2 rfl rfl rfl rfl rfl rfl rfl (wlm 2 3 rfl rfl rfl rfl rfl rfl rfl (wlo 3 4 rfl rfl rfl (wo_run rfl rfl (run_add rfl rfl rfl (by first | omega | (simp only [lens]; omega))) ?_)))))
   refine wlm 4 5 rfl rfl rfl rfl rfl rfl rfl (wlm 5 6 rfl rfl rfl rfl rfl rfl rfl (wlo 6 7 rfl rfl rfl (wo_run rfl rfl (run_add rfl rfl rfl (by first | omega | (simp only [lens]; omega))) ?_)))
   refine wlm 7 8 rfl rfl rfl rfl rfl rfl rfl (wlo 8 9 rfl rfl rfl (wo_run rfl rfl (run_sub rfl rfl rfl (by first | omega | (simp only [lens]; omega))) ?_))
   refine wl_eq 24 (.int .i64 ((n - k : Nat) : Int)) rfl (int_eq (by omega)) ?_
   have hrg := hP.rg (n - k)
   refine wlo 9 10 rfl rfl rfl (wo_run rfl rfl (run_indexM (C := cdInt) (n - k) rfl rfl rfl sl38 (by first | rfl | omega) hp (by first | omega | (simp only [lens]; omega))) ?_)
   refine wlo 10 11 rfl rfl rfl (wo_run rfl rfl (run_load1 rfl rfl Try.underlying3 rfl (hp.cell S2.um (i := n - k) (by first | omega | (simp only [lens]; omega)) 0 rfl rfl)) ?_)
   refine wlo 11 12 rfl rfl rfl (wo_run rfl rfl (run_sub rfl rfl rfl (by first | omega | (simp only [lens]; omega))) ?_)
   refine wlo 12 13 rfl rfl rfl (wo_run rfl rfl (run_indexR (C := cdInt) (i := 0) (k + 1) rfl rfl rfl sl38 S2 rfl (by first | rfl | omega) (by first | omega | (simp only [lens]; omega))) ?_)
   refine wlo 13 14 rfl rfl rfl (wo_storeR (C := cdInt) (i := 0) (e := k + 1) (j := 0) (us := [_]) (H' := [_]) (((n : Int) + 1) - (ga p (n - k))) rfl rfl S2 rfl (by first | omega | (simp only [lens]; omega)) rfl rfl rfl sz3 rfl rfl rfl rfl ?_)
   intro w3 S3; clear S2
   refine wl_end rfl (nm_blk (nmk [0, 3, 4, 5] rfl (nm_thn (ws_region rfl ?_))))
   refine wlm 0 1 rfl rfl rfl rfl rfl rfl rfl (wlo 1 2 rfl rfl rfl (wo_run rfl rfl (run_add rfl rfl rfl (by first | omega | (simp only [lens]; omega))) ?_))
   refine wla 2 3 rfl rfl rfl rfl rfl rfl rfl (wl_end rfl (nm_lp ?_))
   intro ax_ hax_
   refine ⟨_, ?hq2m, ⟨k + 1, _, _, rfl, hax_.sub ⟨rfl, rfl, rfl, rfl, trivial⟩, S3.pick [0] [_] (by decide) ⟨rfl, trivial⟩, ?hq2f0, ?hq2f1, ?hq2f2⟩⟩
   case hq2f0 => omega
   case hq2f1 => simpa using hal
   case hq2f2 => (intro j hj; rw [ga_set _ _ _ _ (by omega)]; by_cases c : k + 1 = j; (rw [if_pos c, if_pos (by omega), show n - k = n + 1 - j by omega]); (rw [if_neg c, hg j hj]; by_cases c2 : 1 ≤ j ∧ j ≤ k; (rw [if_pos c2, if_pos (by omega)]); (rw [if_neg c2, if_neg (by omega)])))
   case hq2m => omega
  ·replace hb13 := of_decide_eq_false hb13
   refine ws_exit rfl rfl (nmk [4] rfl (nm_thn (ws_seqN flipped_n22 flipped_n23 rfl rfl rfl (ws_region rfl ?_))))
   refine wlm 0 1 rfl rfl rfl rfl rfl rfl rfl (wla 1 2 rfl rfl rfl rfl rfl rfl rfl (wl_end rfl (nmk [2] rfl (nm_thn ?_))))
   have e : acc = flipL n p := ga_ext (by rw [hal, flipL, mkP_len]) fun i hi => by (rw [hg i (by omega)]; by_cases c : i = 0; (subst c; rw [if_neg (by omega), flipL, mkP_z]; rfl); (rw [if_pos (by omega), flipL_ga (by omega) (by omega)]))
   subst e
   refine ws_ret hC [_] rfl rfl ⟨rfl, trivial⟩ ?_
   exact ⟨_, rfl, _, S2.pick [0] [_] (by decide) ⟨rfl, trivial⟩, rfl⟩
noncomputable def starts_n0 : Code := Try.f36.body.getD .skip
noncomputable def starts_n1 : Code := cL starts_n0
noncomputable def starts_n2 : Code := cR starts_n0
noncomputable def starts_n3 : Code := cL starts_n2
noncomputable def starts_n4 : Code := cR starts_n2
set_option maxRecDepth 10000 in
theorem starts_q {w : World} {M : Hp} {X : Fr} (p : List Int) {pA : Option Addr} {pc : Nat} (i : Nat) (hp : RdA cdInt (M.un X.h) pA pc p) (h1 : 1 ≤ i) (h2 : i + 1 < p.length) (S : SH w M X []) : Cq Try.prog 36 [.slice pA p.length pc, .int .i64 (i : Int)] w M X (fun u => u = .bool (decide (ga p (i + 1) < ga p i))) := by
 unfold Cq
 have rmhp : p.length * 8 ≤ 140737488355328 := hp.room
 refine calls_in (b := starts_n0) Try.func36 rfl Try.ntmps36 rfl (fun C hC => (ws_sub [(0, _), (1, _)] ⟨rfl, rfl, trivial⟩ (ws_seqN starts_n1 starts_n2 rfl rfl rfl (ws_region rfl (wla 0 1 rfl rfl rfl rfl rfl rfl rfl ?_)))))
 refine wl_end rfl (nmk [0, 1] rfl (nm_thn (ws_seqN starts_n3 starts_n4 rfl rfl rfl (ws_draw rfl (by kernel_rfl) S 11 rfl ?_))))
 clear S
 refine wap 0 10 rfl (by kernel_rfl) rfl rfl rfl (fun w1 => run_move rfl rfl) ?_
 refine wap 1 9 rfl (by kernel_rfl) rfl rfl rfl (fun w2 => run_move rfl rfl) ?_
 refine wat 2 8 rfl (by kernel_rfl) rfl rfl rfl (fun M3 N3 w3 hle3 S3 => .inl (run_indexM (C := cdInt) i rfl rfl rfl sl38 (by first | rfl | omega) (hp.mono (Hp.un_mono hle3 S3.mx)) (by first | omega | (simp only [lens]; omega)))) ?_
 refine wat 3 7 rfl (by kernel_rfl) rfl rfl rfl (fun M4 N4 w4 hle4 S4 => .inl (run_load1 rfl rfl Try.underlying3 rfl ((hp.mono (Hp.un_mono hle4 S4.mx)).cell S4.um (i := i) (by first | omega | (simp only [lens]; omega)) 0 rfl rfl))) ?_
 refine wap 4 6 rfl (by kernel_rfl) rfl rfl rfl (fun w5 => run_move rfl rfl) ?_
 refine wap 5 5 rfl (by kernel_rfl) rfl rfl rfl (fun w6 => run_move rfl rfl) ?_
 refine wap 6 4 rfl (by kernel_rfl) rfl rfl rfl (fun w7 => run_add rfl rfl rfl (by first | omega | (simp only [lens]; omega))) ?_
 refine wat 7 3 rfl (by kernel_rfl) rfl rfl rfl (fun M8 N8 w8 hle8 S8 => .inl (run_indexM (C := cdInt) (i + 1) rfl rfl rfl sl38 (by first | rfl | omega) (hp.mono (Hp.un_mono hle8 S8.mx)) (by first | omega | (simp only [lens]; omega)))) ?_
 refine wat 8 2 rfl (by kernel_rfl) rfl rfl rfl (fun M9 N9 w9 hle9 S9 => .inl (run_load1 rfl rfl Try.underlying3 rfl ((hp.mono (Hp.un_mono hle9 S9.mx)).cell S9.um (i := i + 1) (by first | omega | (simp only [lens]; omega)) 0 rfl rfl))) ?_
 refine wap 9 1 rfl (by kernel_rfl) rfl rfl rfl (fun w10 => run_gtr rfl rfl rfl) ?_
 refine wap 10 0 rfl (by kernel_rfl) rfl rfl rfl (fun w11 => run_assign rfl rfl) ?_
 refine wa_end (by kernel_rfl) (fun w12 S12 => ?_)
 refine nmk [4] rfl (nm_thn (ws_ret hC [_] rfl rfl ⟨rfl, trivial⟩ ?_))
 exact ⟨_, rfl, (S12.pick [] [] (by decide) trivial), rfl⟩
noncomputable def ends_n0 : Code := Try.f37.body.getD .skip
noncomputable def ends_n1 : Code := cL ends_n0
noncomputable def ends_n2 : Code := cR ends_n0
noncomputable def ends_n3 : Code := cL ends_n2
noncomputable def ends_n4 : Code := cR ends_n2
set_option maxRecDepth 10000 in
theorem ends_q {w : World} {M : Hp} {X : Fr} (p : List Int) {pA : Option Addr} {pc : Nat} (i : Nat) (hp : RdA cdInt (M.un X.h) pA pc p) {n : Nat} (hP : PL n p) (hn : n ≤ 6) (h1 : 1 ≤ i) (h2 : i < n) (S : SH w M X []) : Cq Try.prog 37 [.slice pA p.length pc, .int .i64 (i : Int)] w M X (fun u => u = .bool (decide (plL p ((i : Int) + 1) < plL p (i : Int)))) := by
 unfold Cq
 have rmhp : p.length * 8 ≤ 140737488355328 := hp.room
 have hpl := hP.len
 have hi1 := idxF_in (hP.mem_ h1 (by omega : i ≤ n))
 have hi2 := idxF_in (hP.mem2_ h1 h2)
 refine calls_in (b := ends_n0) Try.func37 rfl Try.ntmps37 rfl (fun C hC => (ws_sub [(0, _), (1, _)] ⟨rfl, rfl, trivial⟩ (ws_seqN ends_n1 ends_n2 rfl rfl rfl (ws_region rfl (wla 0 1 rfl rfl rfl rfl rfl rfl rfl ?_)))))
 refine wl_end rfl (nmk [0, 1] rfl (nm_thn (ws_seqN ends_n3 ends_n4 rfl rfl rfl (ws_region rfl ?_))))
 refine wlm 0 1 rfl rfl rfl rfl rfl rfl rfl (wlm 1 2 rfl rfl rfl rfl rfl rfl rfl (wlo 2 3 rfl rfl rfl (wo_cq rfl rfl rfl rfl rfl rfl rfl cf34 S (IndexP_q p (i : Int) (hp.mono S.un_XH) S.lend) ?_)))
 rintro _ w1 S1 rfl; clear S
 refine wlm 3 4 rfl rfl rfl rfl rfl rfl rfl (wlm 4 5 rfl rfl rfl rfl rfl rfl rfl (wlo 5 6 rfl rfl rfl (wo_run rfl rfl (run_add rfl rfl rfl (by first | omega | (simp only [lens]; omega))) ?_)))
 refine wlo 6 7 rfl rfl rfl (wo_cq rfl rfl rfl rfl rfl rfl rfl cf34 S1 (IndexP_q p ((i : Int) + 1) (hp.mono S1.un_XH) S1.lend) ?_)
 rintro _ w2 S2 rfl; clear S1
 refine wlo 7 8 rfl rfl rfl (wo_run rfl rfl (run_gtr rfl rfl rfl) (wla 8 9 rfl rfl rfl rfl rfl rfl rfl (wl_end rfl (nmk [4] rfl (nm_thn ?_)))))
 refine ws_ret hC [_] rfl rfl ⟨rfl, trivial⟩ ?_
 exact ⟨_, rfl, (S2.pick [] [] (by decide) trivial), (by show Value.bool _ = Value.bool _; refine congrArg Value.bool ?_; rw [decide_eq_decide]; unfold plL; omega)⟩
noncomputable def EqualP_n0 : Code := Try.f20.body.getD .skip
noncomputable def EqualP_n1 : Code := cL EqualP_n0
noncomputable def EqualP_n2 : Code := cR EqualP_n0
noncomputable def EqualP_n3 : Code := cL EqualP_n2
noncomputable def EqualP_n4 : Code := cR EqualP_n2
noncomputable def EqualP_n5 : Code := cL EqualP_n3
noncomputable def EqualP_n6 : Code := cR EqualP_n3
noncomputable def EqualP_n7 : Code := cL EqualP_n6
noncomputable def EqualP_n8 : Code := cR EqualP_n6
noncomputable def EqualP_n9 : Code := cL EqualP_n7
noncomputable def EqualP_n10 : Code := cR EqualP_n7
noncomputable def EqualP_n11 : Code := cL EqualP_n4
noncomputable def EqualP_n12 : Code := cR EqualP_n4
noncomputable def EqualP_n13 : Code := cL EqualP_n11
noncomputable def EqualP_n14 : Code := cR EqualP_n11
noncomputable def EqualP_n15 : Code := cL EqualP_n14
noncomputable def EqualP_n16 : Code := cL EqualP_n15
noncomputable def EqualP_n17 : Code := cL EqualP_n16
noncomputable def EqualP_n18 : Code := cR EqualP_n16
noncomputable def EqualP_n19 : Code := cL EqualP_n18
noncomputable def EqualP_n20 : Code := cR EqualP_n18
noncomputable def EqualP_n21 : Code := cL EqualP_n19
noncomputable def EqualP_n22 : Code := cR EqualP_n19
noncomputable def EqualP_n23 : Code := cL EqualP_n20
noncomputable def EqualP_n24 : Code := cR EqualP_n20
noncomputable def EqualP_n25 : Code := cL EqualP_n23
noncomputable def EqualP_n26 : Code := cL EqualP_n25
noncomputable def EqualP_n27 : Code := cR EqualP_n25
noncomputable def EqualP_n28 : Code := cL EqualP_n27
noncomputable def EqualP_n29 : Code := cR EqualP_n27
noncomputable def EqualP_n30 : Code := cL EqualP_n29
noncomputable def EqualP_n31 : Code := cR EqualP_n29
noncomputable def EqualP_n32 : Code := cL EqualP_n30
noncomputable def EqualP_n33 : Code := cR EqualP_n30
noncomputable def EqualP_n34 : Code := cL EqualP_n12
noncomputable def EqualP_n35 : Code := cR EqualP_n12
set_option maxRecDepth 10000 in
theorem EqualP_q {w : World} {M : Hp} {X : Fr} (p : List Int) {pA : Option Addr} {pc : Nat} (q : List Int) {qA : Option Addr} {qc : Nat} (hp : RdA cdInt (M.un X.h) pA pc p) (hq : RdA cdInt (M.un X.h) qA qc q) (S : SH w M X []) : Cq Try.prog 20 [.slice pA p.length pc, .slice qA q.length qc] w M X (fun u => u = .bool (decide (p = q))) := by
 unfold Cq
 have rmhp : p.length * 8 ≤ 140737488355328 := hp.room
 have rmhq : q.length * 8 ≤ 140737488355328 := hq.room
 refine calls_in (b := EqualP_n0) Try.func20 rfl Try.ntmps20 rfl (fun C hC => (ws_sub [(0, _), (1, _)] ⟨rfl, rfl, trivial⟩ (ws_seqN EqualP_n1 EqualP_n2 rfl rfl rfl (ws_region rfl (wla 0 1 rfl rfl rfl rfl rfl rfl rfl ?_)))))
 refine wl_end rfl (nmk [0, 1] rfl (nm_thn (ws_seqN EqualP_n3 EqualP_n4 rfl rfl rfl (ws_seqN EqualP_n5 EqualP_n6 rfl rfl rfl ?_))))
 refine ws_region rfl (wlm 0 1 rfl rfl rfl rfl rfl rfl rfl (wlo 1 2 rfl rfl rfl (wo_run rfl rfl (run_len rfl rfl rfl rfl rfl rfl Try.underlying38) (wlm 2 3 rfl rfl rfl rfl rfl rfl rfl (wlo 3 4 rfl rfl rfl (wo_run rfl rfl (run_len rfl rfl rfl rfl rfl rfl Try.underlying38) ?_))))))
 refine wlo 4 5 rfl rfl rfl (wo_run rfl rfl (run_neq rfl rfl rfl) (wl_end rfl (nmk [0, 1, 10] rfl (nm_thn ?_))))
 refine ws_condN EqualP_n7 EqualP_n8 rfl rfl rfl rfl (fun hb10 => ?_) (fun hb10 => ?_)
 ·replace hb10 := of_decide_eq_true hb10
  refine ws_seqN EqualP_n9 EqualP_n10 rfl rfl rfl (ws_region rfl (wla 0 1 rfl rfl rfl rfl rfl rfl rfl (wl_end rfl (nmk [4] rfl ?_))))
  refine nm_thn (ws_ret hC [_] rfl rfl ⟨rfl, trivial⟩ ?_)
  exact ⟨_, rfl, (S.pick [] [] (by decide) trivial), (by show Value.bool _ = Value.bool _; refine congrArg Value.bool ?_; first | exact (decide_eq_true (ga_ext (by omega) fun i hi => hg i (by omega))).symm | exact (decide_eq_false (fun e => by subst e; omega)).symm)⟩
 ·replace hb10 := of_decide_eq_false hb10
  refine ws_skip rfl (nmk [0, 1] rfl (nm_thn (ws_seqN EqualP_n11 EqualP_n12 rfl rfl rfl (ws_seqN EqualP_n13 EqualP_n14 rfl rfl rfl ?_))))
  refine ws_region rfl (wlm 0 1 rfl rfl rfl rfl rfl rfl rfl (wlo 1 2 rfl rfl rfl (wo_run rfl rfl (run_len rfl rfl rfl rfl rfl rfl Try.underlying38) (wlm 2 3 rfl rfl rfl rfl rfl rfl rfl (wl_end rfl ?_)))))
  refine nmk [0, 1, 12, 13] rfl (nm_thn (ws_blockN EqualP_n15 0 rfl rfl rfl ?_))
  refine ws_loopE (fun mx_ ax_ wx_ => ∃ (k : Nat), mx_ = p.length - k ∧ Env 26 [(0, .slice pA p.length pc), (1, .slice qA q.length qc), (12, .int .i64 (p.length : Int)), (13, .int .i64 (k : Int))] ax_ ∧ SH wx_ M X [] ∧ k ≤ p.length ∧ (∀ j, j < k → ga p j = ga q j)) rfl ?_ ?_
  ·intro ax_ hax_
   refine ⟨_, ⟨0, rfl, hax_.sub ⟨rfl, rfl, rfl, rfl, trivial⟩, S.pick [] [] (by decide) trivial, ?hq1f0, ?hq1f1⟩⟩
   case hq1f0 => omega
   case hq1f1 => (intro j hj; omega)
  ·rintro m1 a1 w1 ⟨k, rfl, he1, S1, hk, hg⟩
   clear S
   refine ws_in he1 (c := EqualP_n16) rfl ?_
   clear he1 a1
   refine ws_seqN EqualP_n17 EqualP_n18 rfl rfl rfl (ws_region rfl (wlo 0 1 rfl rfl rfl (wo_run rfl rfl (run_lss rfl rfl rfl) (wl_end rfl (nm_thn ?_)))))
   refine ws_seqN EqualP_n19 EqualP_n20 rfl rfl rfl ?_
   refine ws_condN EqualP_n21 EqualP_n22 rfl rfl rfl rfl (fun hb14 => ?_) (fun hb14 => ?_)
   ·replace hb14 := of_decide_eq_true hb14
    refine ws_skip rfl (nmk [0, 1, 12, 13] rfl (nm_thn (ws_seqN EqualP_n23 EqualP_n24 rfl rfl rfl (ws_blockN EqualP_n25 1 rfl rfl rfl ?_))))
    refine ws_seqN EqualP_n26 EqualP_n27 rfl rfl rfl (ws_region rfl (wlm 0 1 rfl rfl rfl rfl rfl rfl rfl (wla 1 2 rfl rfl rfl rfl rfl rfl rfl (wl_end rfl ?_))))
    refine nmk [0, 1, 12, 13, 5] rfl (nm_thn (ws_seqN EqualP_n28 EqualP_n29 rfl rfl rfl (ws_draw rfl (by kernel_rfl) S1 9 rfl ?_)))
    clear S1
    refine wap 0 8 rfl (by kernel_rfl) rfl rfl rfl (fun w2 => run_move rfl rfl) ?_
    refine wap 1 7 rfl (by kernel_rfl) rfl rfl rfl (fun w3 => run_move rfl rfl) ?_
    refine wat 2 6 rfl (by kernel_rfl) rfl rfl rfl (fun M3 N3 w4 hle4 S4 => .inl (run_indexM (C := cdInt) k rfl rfl rfl sl38 (by first | rfl | omega) (hp.mono (Hp.un_mono hle4 S4.mx)) (by first | omega | (simp only [lens]; omega)))) ?_
    refine wat 3 5 rfl (by kernel_rfl) rfl rfl rfl (fun M4 N4 w5 hle5 S5 => .inl (run_load1 rfl rfl Try.underlying3 rfl ((hp.mono (Hp.un_mono hle5 S5.mx)).cell S5.um (i := k) (by first | omega | (simp only [lens]; omega)) 0 rfl rfl))) ?_
    refine wap 4 4 rfl (by kernel_rfl) rfl rfl rfl (fun w6 => run_move rfl rfl) ?_
    refine wap 5 3 rfl (by kernel_rfl) rfl rfl rfl (fun w7 => run_move rfl rfl) ?_
    refine wat 6 2 rfl (by kernel_rfl) rfl rfl rfl (fun M7 N7 w8 hle8 S8 => .inl (run_indexM (C := cdInt) k rfl rfl rfl sl38 (by first | rfl | omega) (hq.mono (Hp.un_mono hle8 S8.mx)) (by first | omega | (simp only [lens]; omega)))) ?_
    refine wat 7 1 rfl (by kernel_rfl) rfl rfl rfl (fun M8 N8 w9 hle9 S9 => .inl (run_load1 rfl rfl Try.underlying3 rfl ((hq.mono (Hp.un_mono hle9 S9.mx)).cell S9.um (i := k) (by first | omega | (simp only [lens]; omega)) 0 rfl rfl))) ?_
    refine wap 8 0 rfl (by kernel_rfl) rfl rfl rfl (fun w10 => run_neq rfl rfl rfl) ?_
    refine wa_end (by kernel_rfl) (fun w11 S11 => ?_)
    refine nmk [0, 1, 12, 13, 24] rfl (nm_thn ?_)
    refine ws_condN EqualP_n30 EqualP_n31 rfl rfl rfl rfl (fun hb24 => ?_) (fun hb24 => ?_)
    ·replace hb24 := of_decide_eq_true hb24
     refine ws_seqN EqualP_n32 EqualP_n33 rfl rfl rfl (ws_region rfl (wla 0 1 rfl rfl rfl rfl rfl rfl rfl (wl_end rfl (nmk [4] rfl ?_))))
     refine nm_thn (ws_ret hC [_] rfl rfl ⟨rfl, trivial⟩ ?_)
     exact ⟨_, rfl, (S11.pick [] [] (by decide) trivial), (by show Value.bool _ = Value.bool _; refine congrArg Value.bool ?_; first | exact (decide_eq_true (ga_ext (by omega) fun i hi => hg i (by omega))).symm | exact (decide_eq_false (fun e => by subst e; omega)).symm)⟩
    ·replace hb24 := of_decide_eq_false hb24
     refine ws_skip rfl (nm_blk (nmk [0, 1, 12, 13] rfl (nm_thn (ws_region rfl ?_))))
     refine wlo 0 1 rfl rfl rfl (wo_run rfl rfl (run_add rfl rfl rfl (by first | omega | (simp only [lens]; omega))) ?_)
     refine wlm 1 2 rfl rfl rfl rfl rfl rfl rfl (wl_end rfl (nm_lp ?_))
     intro ax_ hax_
     refine ⟨_, ?hq2m, ⟨k + 1, rfl, hax_.sub ⟨rfl, rfl, rfl, rfl, trivial⟩, S11.pick [] [] (by decide) trivial, ?hq2f0, ?hq2f1⟩⟩
     case hq2f0 => omega
     case hq2f1 => (intro j hj; by_cases h : j = k; (subst h; omega); exact hg j (by omega))
     case hq2m => omega
   ·replace hb14 := of_decide_eq_false hb14
    refine ws_exit rfl rfl (nm_sub [] trivial (nm_thn (ws_seqN EqualP_n34 EqualP_n35 rfl rfl rfl (ws_region rfl ?_))))
    refine wla 0 1 rfl rfl rfl rfl rfl rfl rfl (wl_end rfl (nm_thn (ws_ret hC [_] rfl rfl ⟨rfl, trivial⟩ ?_)))
    exact ⟨_, rfl, (S1.pick [] [] (by decide) trivial), (by show Value.bool _ = Value.bool _; refine congrArg Value.bool ?_; first | exact (decide_eq_true (ga_ext (by omega) fun i hi => hg i (by omega))).symm | exact (decide_eq_false (fun e => by subst e; omega)).symm)⟩
end Go.Proofs.Ytomcgmialkdcbaa
namespace Go.Proofs.Ytomcgmialkdcbaa
open Go.ChangeShapes Go.WideShapes Go.ChangeAt Go.RowKit
def shC (p q : List Int) (i : Nat) : Prop := ga q (i + 1) < ga q i ∧ ¬ plL p ((i : Int) + 1) < plL p (i : Int)
instance (p q : List Int) (i : Nat) : Decidable (shC p q i) := by unfold shC; infer_instance
/-- The first letter that may be moved; 0: none. -/
def shI (n : Nat) (p q : List Int) : Nat := ((List.range n).find? fun i => decide (1 ≤ i ∧ shC p q i)).getD 0
theorem shI_at {n : Nat} {p q : List Int} {k : Nat} (h1 : 1 ≤ k) (h2 : k < n) (hc : shC p q k) (hn : ∀ j, 1 ≤ j → j < k → ¬ shC p q j) : shI n p q = k := by
 unfold shI
 have e : (List.range n).find? (fun i => decide (1 ≤ i ∧ shC p q i)) = some k := by
  rw [List.find?_eq_some_iff_getElem]
  refine ⟨decide_eq_true ⟨h1, hc⟩, k, by rw [List.length_range]; exact h2, by rw [List.getElem_range], fun j hj => ?_⟩
  rw [List.getElem_range]
  simp only [Bool.not_eq_true', decide_eq_false_iff_not]
  rintro ⟨a, b⟩
  exact hn j a hj b
 rw [e]; rfl
theorem shI_no {n : Nat} {p q : List Int} (hn : ∀ j, 1 ≤ j → j < n → ¬ shC p q j) : shI n p q = 0 := by
 unfold shI
 have e : (List.range n).find? (fun i => decide (1 ≤ i ∧ shC p q i)) = none := by
  rw [List.find?_eq_none]
  intro j hj
  rw [List.mem_range] at hj
  rw [decide_eq_true_iff]
  rintro ⟨a, b⟩
  exact hn j a hj b
 rw [e]; rfl
theorem shI_spec {n : Nat} {p q : List Int} (h : shI n p q ≠ 0) : 1 ≤ shI n p q ∧ shI n p q < n ∧ shC p q (shI n p q) := by
 unfold shI at *
 cases e : (List.range n).find? (fun i => decide (1 ≤ i ∧ shC p q i)) with
 | none => rw [e] at h; exact absurd rfl h
 | some k =>
  have h1 := List.find?_some e
  have h2 := List.mem_of_find?_eq_some e
  rw [List.mem_range] at h2
  rw [decide_eq_true_iff] at h1
  exact ⟨h1.1, h2, h1.2⟩
theorem shI_none {n : Nat} {p q : List Int} (h : shI n p q = 0) : ∀ j, 1 ≤ j → j < n → ¬ shC p q j := fun j j1 j2 hc => by
 unfold shI at h
 cases e : (List.range n).find? (fun i => decide (1 ≤ i ∧ shC p q i)) with
 | none =>
  rw [List.find?_eq_none] at e
  exact e j (List.mem_range.2 j2) (decide_eq_true ⟨j1, hc⟩)
 | some k =>
  have h1 := List.find?_some e
  rw [decide_eq_true_iff] at h1
  rw [e] at h
  have h : k = 0 := h
  omega
def shA (n : Nat) (p q : List Int) : List Int := if shI n p q = 0 then p else thenL p (shI n p q : Int)
def shB (n : Nat) (p q : List Int) : List Int := if shI n p q = 0 then q else swL q (shI n p q)
theorem sh_at {n : Nat} {p q : List Int} {k : Nat} (e : shI n p q = k) (h1 : 1 ≤ k) : shA n p q = thenL p (k : Int) ∧ shB n p q = swL q k := by
 unfold shA shB; rw [e, if_neg (by omega), if_neg (by omega)]; exact ⟨rfl, rfl⟩
theorem sh_no {n : Nat} {p q : List Int} (e : shI n p q = 0) : shA n p q = p ∧ shB n p q = q := by
 unfold shA shB; rw [if_pos e, if_pos e]; exact ⟨rfl, rfl⟩
noncomputable def Shift_n0 : Code := Try.f28.body.getD .skip
noncomputable def Shift_n1 : Code := cL Shift_n0
noncomputable def Shift_n2 : Code := cR Shift_n0
noncomputable def Shift_n3 : Code := cL Shift_n2
noncomputable def Shift_n4 : Code := cR Shift_n2
noncomputable def Shift_n5 : Code := cL Shift_n3
noncomputable def Shift_n6 : Code := cR Shift_n3
noncomputable def Shift_n7 : Code := cL Shift_n6
noncomputable def Shift_n8 : Code := cL Shift_n7
noncomputable def Shift_n9 : Code := cL Shift_n8
noncomputable def Shift_n10 : Code := cR Shift_n8
noncomputable def Shift_n11 : Code := cL Shift_n9
noncomputable def Shift_n12 : Code := cR Shift_n9
noncomputable def Shift_n13 : Code := cL Shift_n12
noncomputable def Shift_n14 : Code := cR Shift_n12
noncomputable def Shift_n15 : Code := cL Shift_n10
noncomputable def Shift_n16 : Code := cR Shift_n10
noncomputable def Shift_n17 : Code := cL Shift_n15
noncomputable def Shift_n18 : Code := cL Shift_n17
noncomputable def Shift_n19 : Code := cR Shift_n17
noncomputable def Shift_n20 : Code := cL Shift_n19
noncomputable def Shift_n21 : Code := cR Shift_n19
noncomputable def Shift_n22 : Code := cL Shift_n20
noncomputable def Shift_n23 : Code := cR Shift_n20
noncomputable def Shift_n24 : Code := cL Shift_n23
noncomputable def Shift_n25 : Code := cR Shift_n23
noncomputable def Shift_n26 : Code := cL Shift_n25
noncomputable def Shift_n27 : Code := cR Shift_n25
noncomputable def Shift_n28 : Code := cL Shift_n4
noncomputable def Shift_n29 : Code := cR Shift_n4
set_option maxRecDepth 10000 in
theorem Shift_b {w : World} {M : Hp} {X : Fr} {vp : Value} {p : List Int} {vq : Value} {q : List Int} {n : Nat} (hP : PL n p) (hQ : PL n q) (hn2 : 2 ≤ n) (hn : n ≤ 6) (S : SH w M X [Rs.bun [Rs.row cdInt vp p, Rs.row cdInt vq q]]) : C1 Try.prog 28 [vp, vq] w M X (fun u M' r' => u = .bool (decide (shI n p q ≠ 0)) ∧ M' = M ∧ r' = Rs.bun [Rs.row cdInt vp (shA n p q), Rs.row cdInt vq (shB n p q)]) := by
 unfold C1
 replace S := S.unbun
 have hpl := hP.len
 have hql := hQ.len
 refine calls_in (b := Shift_n0) Try.func28 rfl Try.ntmps28 rfl (fun C hC => (ws_sub [(0, _), (1, _)] ⟨rfl, rfl, trivial⟩ (ws_seqN Shift_n1 Shift_n2 rfl rfl rfl (ws_region rfl (wla 0 1 rfl rfl rfl rfl rfl rfl rfl ?_)))))
 refine wl_end rfl (nmk [0, 1] rfl (nm_thn (ws_seqN Shift_n3 Shift_n4 rfl rfl rfl (ws_seqN Shift_n5 Shift_n6 rfl rfl rfl ?_))))
 refine ws_region rfl (wla 0 1 rfl rfl rfl rfl rfl rfl rfl (wl_end rfl (nm_thn (ws_blockN Shift_n7 0 rfl rfl rfl ?_))))
 refine ws_loopE (fun mx_ ax_ wx_ => ∃ (k : Nat), mx_ = n - k ∧ Env 41 [(0, vp), (1, vq), (5, .int .i64 ((k + 1 : Nat) : Int))] ax_ ∧ SH wx_ M X [Rs.row cdInt vp p, Rs.row cdInt vq q] ∧ k + 1 ≤ n ∧ (∀ j, 1 ≤ j → j < k + 1 → ¬ shC p q j)) rfl ?_ ?_
 ·intro ax_ hax_
  refine ⟨_, ⟨0, rfl, hax_.sub ⟨rfl, rfl, rfl, trivial⟩, S.pick [0, 1] [_, _] (by decide) ⟨rfl, rfl, trivial⟩, ?hq1f0, ?hq1f1⟩⟩
  case hq1f0 => omega
  case hq1f1 => (intro j h1 h2; omega)
 ·rintro m1 a1 w1 ⟨k, rfl, he1, S1, hk, hno⟩
  clear S
  refine ws_in he1 (c := Shift_n8) rfl ?_
  clear he1 a1
  refine ws_seqN Shift_n9 Shift_n10 rfl rfl rfl (ws_seqN Shift_n11 Shift_n12 rfl rfl rfl (ws_region rfl (wlm 0 1 rfl rfl rfl rfl rfl rfl rfl (wlm 1 2 rfl rfl rfl rfl rfl rfl rfl ?_))))
  refine wlo 2 3 rfl rfl rfl (wo_run rfl rfl (run_lenR (C := cdInt) (i := 0) rfl rfl rfl rfl rfl rfl sl38 S1 rfl) (wlo 3 4 rfl rfl rfl (wo_run rfl rfl (run_sub rfl rfl rfl (by first | omega | (simp only [lens]; omega))) ?_)))
  refine wlo 4 5 rfl rfl rfl (wo_run rfl rfl (run_lss rfl rfl rfl) (wl_end rfl (nmk [0, 1, 5, 10] rfl (nm_thn ?_))))
  refine ws_condN Shift_n13 Shift_n14 rfl rfl rfl rfl (fun hb10 => ?_) (fun hb10 => ?_)
  ·replace hb10 := of_decide_eq_true hb10
   refine ws_skip rfl (nmk [0, 1, 5] rfl (nm_thn (ws_seqN Shift_n15 Shift_n16 rfl rfl rfl (ws_blockN Shift_n17 1 rfl rfl rfl ?_))))
   refine ws_seqN Shift_n18 Shift_n19 rfl rfl rfl (ws_region rfl (wlm 0 1 rfl rfl rfl rfl rfl rfl rfl (wlm 1 2 rfl rfl rfl rfl rfl rfl rfl ?_)))
   obtain ⟨A1, c1, e1, hr1⟩ := S1.lendRd (i := 1) rfl (by show _ * 8 ≤ _; first | omega | (simp only [lens]; omega))
   have hcall1 := starts_q q (k + 1) hr1 (by omega) (by omega) S1.lend
   refine wlo 2 3 rfl rfl rfl (wo_cq rfl rfl rfl rfl rfl rfl rfl cf36 S1 (Cq.cast (by simp only [e1]) (hcall1)) ?_)
   rintro _ w2 S2 rfl; clear S1
   refine wlm 3 4 rfl rfl rfl rfl rfl rfl rfl ?_
   refine wl_split (t := 16) rfl (fun hg16 => ?_) (fun hg16 => ?_)
   ·refine wlg 4 5 rfl rfl rfl rfl rfl rfl rfl rfl (wo_run rfl rfl (run_move rfl rfl) (wlg 5 6 rfl rfl rfl rfl rfl rfl rfl rfl (wo_run rfl rfl (run_move rfl rfl) ?_)))
    obtain ⟨A2, c2, e2, hr2⟩ := S2.lendRd (i := 0) rfl (by show _ * 8 ≤ _; first | omega | (simp only [lens]; omega))
    have hcall2 := ends_q p (k + 1) hr2 (by assumption) (by omega) (by omega) (by omega) S2.lend
    refine wlg 6 7 rfl rfl rfl rfl rfl rfl rfl rfl (wo_cq rfl rfl rfl rfl rfl rfl rfl cf37 S2 (Cq.cast (by simp only [e2]) (hcall2)) ?_)
    rintro _ w3 S3 rfl; clear S2
    refine wlg 7 8 rfl rfl rfl rfl rfl rfl rfl rfl (wo_run rfl rfl (run_not rfl rfl) (wlo 8 9 rfl rfl rfl (wo_run rfl rfl (run_pickT rfl rfl rfl) (wl_end rfl (nmk [0, 1, 5, 21] rfl (nm_thn ?_))))))
    refine ws_condN Shift_n20 Shift_n21 rfl rfl rfl rfl (fun hb21 => ?_) (fun hb21 => ?_)
    ·simp only [Bool.and_eq_true, Bool.or_eq_true, Bool.and_eq_false_iff, Bool.or_eq_false_iff, decide_eq_true_eq, decide_eq_false_iff_not, Bool.not_eq_true', Bool.not_eq_false'] at hb21
     have hsc : shC p q (k + 1) := ⟨of_decide_eq_true hg16, hb21⟩
     have hsh : shI n p q = k + 1 := shI_at (by omega) (by omega) hsc hno
     refine ws_seqN Shift_n22 Shift_n23 rfl rfl rfl (ws_region rfl (wlm 0 1 rfl rfl rfl rfl rfl rfl rfl (wlm 1 2 rfl rfl rfl rfl rfl rfl rfl (wlo 2 3 rfl rfl rfl (wo_c1 rfl rfl rfl rfl rfl rfl rfl cf25 S3 (i := 0) rfl (thenP_w vp _ ((k + 1 : Nat) : Int) (hP.mem_ (by omega) (by omega)) (hP.mem2_ (by omega) (by omega)) (by (try simp only [idL_len, delL_len]); omega) (by omega) (S3.lend1 (i := 0) rfl)) ?_)))))
     rintro vw4 w4 _ _ - S4 ⟨rfl, rfl, rfl⟩; clear S3
     change SH _ _ _ [_, _] at S4
     refine wl_end rfl (nmk [1, 5] rfl (nm_thn (ws_seqN Shift_n24 Shift_n25 rfl rfl rfl (ws_draw rfl (by kernel_rfl) S4 18 rfl ?_))))
     clear S4
     refine wap 0 17 rfl (by kernel_rfl) rfl rfl rfl (fun w5 => run_move rfl rfl) ?_
     refine wap 1 16 rfl (by kernel_rfl) rfl rfl rfl (fun w6 => run_move rfl rfl) ?_
     refine wap 2 15 rfl (by kernel_rfl) rfl rfl rfl (fun w7 => run_move rfl rfl) ?_
     refine wap 3 14 rfl (by kernel_rfl) rfl rfl rfl (fun w8 => run_move rfl rfl) ?_
     refine wap 4 13 rfl (by kernel_rfl) rfl rfl rfl (fun w9 => run_add rfl rfl rfl (by first | omega | (simp only [lens]; omega))) ?_
     refine wap 5 12 rfl (by kernel_rfl) rfl rfl rfl (fun w10 => run_move rfl rfl) ?_
     refine wap 6 11 rfl (by kernel_rfl) rfl rfl rfl (fun w11 => run_move rfl rfl) ?_
     refine wap 7 10 rfl (by kernel_rfl) rfl rfl rfl (fun w12 => run_add rfl rfl rfl (by first | omega | (simp only [lens]; omega))) ?_
     refine wat 8 9 rfl (by kernel_rfl) rfl rfl rfl (fun M9 N9 w13 hle10 S13 => .inl (run_indexR (C := cdInt) (i := 1) (k + 1 + 1) rfl rfl rfl sl38 S13.suf rfl (by first | rfl | omega) (by first | omega | (simp only [lens]; omega)))) ?_
     refine wat 9 8 rfl (by kernel_rfl) rfl rfl rfl (fun M10 N10 w14 hle11 S14 => .inl (run_load1 rfl rfl Try.underlying3 rfl (S14.suf.rowc (i := 1) (e := k + 1 + 1) (j := 0) rfl (by first | omega | (simp only [lens]; omega)) rfl rfl))) ?_
     refine wap 10 7 rfl (by kernel_rfl) rfl rfl rfl (fun w15 => run_move rfl rfl) ?_
     refine wap 11 6 rfl (by kernel_rfl) rfl rfl rfl (fun w16 => run_move rfl rfl) ?_
     refine wat 12 5 rfl (by kernel_rfl) rfl rfl rfl (fun M13 N13 w17 hle14 S17 => .inl (run_indexR (C := cdInt) (i := 1) (k + 1) rfl rfl rfl sl38 S17.suf rfl (by first | rfl | omega) (by first | omega | (simp only [lens]; omega)))) ?_
     refine wat 13 4 rfl (by kernel_rfl) rfl rfl rfl (fun M14 N14 w18 hle15 S18 => .inl (run_load1 rfl rfl Try.underlying3 rfl (S18.suf.rowc (i := 1) (e := k + 1) (j := 0) rfl (by first | omega | (simp only [lens]; omega)) rfl rfl))) ?_
     refine wat 14 3 rfl (by kernel_rfl) rfl rfl rfl (fun M15 N15 w19 hle16 S19 => .inl (run_indexR (C := cdInt) (i := 1) (k + 1) rfl rfl rfl sl38 S19.suf rfl (by first | rfl | omega) (by first | omega | (simp only [lens]; omega)))) ?_
     refine wa_only (i := 15) 2 rfl (by kernel_rfl) rfl rfl (fun w21 S21 => ?_)
     refine (wo_storeR (C := cdInt) (i := 1) (e := k + 1) (j := 0) (us := [_]) (H' := [_, _]) (ga q (k + 1 + 1)) rfl rfl S21 rfl (by first | omega | (simp only [lens]; omega)) rfl rfl rfl sz3 rfl rfl rfl rfl ?_)
     intro w22 S22; clear S21
     refine LeftW.turn (by kernel_rfl) S22 ?_; clear S22
     change WA _ _ _ _ _ _ _ _ _ _ _ _ [_, _]
     refine wat 16 1 rfl (by kernel_rfl) rfl rfl rfl (fun M17 N17 w23 hle18 S23 => .inl (run_indexR (C := cdInt) (i := 1) (k + 1 + 1) rfl rfl rfl sl38 S23.suf rfl (by first | rfl | omega) (by first | omega | (simp only [lens]; omega)))) ?_
     refine wa_only (i := 17) 0 rfl (by kernel_rfl) rfl rfl (fun w25 S25 => ?_)
     refine (wo_storeR (C := cdInt) (i := 1) (e := k + 1 + 1) (j := 0) (us := [_]) (H' := [_, _]) (ga q (k + 1)) rfl rfl S25 rfl (by first | omega | (simp only [lens]; omega)) rfl rfl rfl sz3 rfl rfl rfl rfl ?_)
     intro w26 S26; clear S25
     refine LeftW.turn (by kernel_rfl) S26 ?_; clear S26
     change WA _ _ _ _ _ _ _ _ _ _ _ _ [_, _]
     refine wa_end (by kernel_rfl) (fun w27 S27 => ?_)
     refine nm_sub [] trivial (nm_thn (ws_seqN Shift_n26 Shift_n27 rfl rfl rfl (ws_region rfl (wla 0 1 rfl rfl rfl rfl rfl rfl rfl ?_))))
     refine wl_end rfl (nm_thn (ws_ret hC [_] rfl rfl ⟨rfl, trivial⟩ ?_))
     refine ⟨_, rfl, _, _, Hp.le_refl _, (S27.pick [0, 1] [_, _] (by decide) ⟨rfl, rfl, trivial⟩).bun, ?_⟩
     obtain ⟨ea, eb⟩ := sh_at hsh (by omega)
     rw [hsh, ea, eb]
     exact ⟨rfl, rfl, rfl⟩
    ·simp only [Bool.and_eq_true, Bool.or_eq_true, Bool.and_eq_false_iff, Bool.or_eq_false_iff, decide_eq_true_eq, decide_eq_false_iff_not, Bool.not_eq_true', Bool.not_eq_false'] at hb21
     have hnc : ¬ shC p q (k + 1) := (fun h => by first | exact h.2 hb21 | exact absurd (decide_eq_true h.1) (by rw [hg16]; decide))
     refine ws_skip rfl (nm_blk (nmk [0, 1, 5] rfl (nm_thn (ws_region rfl ?_))))
     refine wlm 0 1 rfl rfl rfl rfl rfl rfl rfl (wlo 1 2 rfl rfl rfl (wo_run rfl rfl (run_add rfl rfl rfl (by first | omega | (simp only [lens]; omega))) ?_))
     refine wla 2 3 rfl rfl rfl rfl rfl rfl rfl (wl_end rfl (nm_lp ?_))
     intro ax_ hax_
     refine ⟨_, ?hq2m, ⟨k + 1, rfl, hax_.sub ⟨rfl, rfl, rfl, trivial⟩, S3.pick [0, 1] [_, _] (by decide) ⟨rfl, rfl, trivial⟩, ?hq2f0, ?hq2f1⟩⟩
     case hq2f0 => omega
     case hq2f1 => (intro j j1 j2; by_cases c : j = k + 1; (subst c; exact hnc); exact hno j j1 (by omega))
     case hq2m => omega
   ·have hnc : ¬ shC p q (k + 1) := (fun h => by first | exact h.2 hb21 | exact absurd (decide_eq_true h.1) (by rw [hg16]; decide))
    refine wln 4 5 rfl rfl rfl rfl rfl rfl rfl rfl rfl (wln 5 6 rfl rfl rfl rfl rfl rfl rfl rfl rfl (wln 6 7 rfl rfl rfl rfl rfl rfl rfl rfl rfl (wln 7 8 rfl rfl rfl rfl rfl rfl rfl rfl rfl (wlo 8 9 rfl rfl rfl (wo_run rfl rfl (run_pickF rfl rfl rfl) ?_)))))
    refine wl_end rfl (nmk [0, 1, 5, 21] rfl (nm_thn (ws_condFN Shift_n21 rfl rfl rfl (ws_skip rfl ?_))))
    refine nm_blk (nmk [0, 1, 5] rfl (nm_thn (ws_region rfl (wlm 0 1 rfl rfl rfl rfl rfl rfl rfl ?_))))
    refine wlo 1 2 rfl rfl rfl (wo_run rfl rfl (run_add rfl rfl rfl (by first | omega | (simp only [lens]; omega))) ?_)
    refine wla 2 3 rfl rfl rfl rfl rfl rfl rfl (wl_end rfl (nm_lp ?_))
    intro ax_ hax_
    refine ⟨_, ?hq3m, ⟨k + 1, rfl, hax_.sub ⟨rfl, rfl, rfl, trivial⟩, S2.pick [0, 1] [_, _] (by decide) ⟨rfl, rfl, trivial⟩, ?hq3f0, ?hq3f1⟩⟩
    case hq3f0 => omega
    case hq3f1 => (intro j j1 j2; by_cases c : j = k + 1; (subst c; exact hnc); exact hno j j1 (by omega))
    case hq3m => omega
  ·replace hb10 := of_decide_eq_false hb10
   refine ws_exit rfl rfl (nm_sub [] trivial (nm_thn (ws_seqN Shift_n28 Shift_n29 rfl rfl rfl (ws_region rfl ?_))))
   refine wla 0 1 rfl rfl rfl rfl rfl rfl rfl (wl_end rfl (nm_thn (ws_ret hC [_] rfl rfl ⟨rfl, trivial⟩ ?_)))
   refine ⟨_, rfl, _, _, Hp.le_refl _, (S1.pick [0, 1] [_, _] (by decide) ⟨rfl, rfl, trivial⟩).bun, ?_⟩
   have hsh : shI n p q = 0 := shI_no fun j a b => hno j a (by omega)
   obtain ⟨ea, eb⟩ := sh_no hsh
   rw [hsh, ea, eb]
   exact ⟨rfl, rfl, rfl⟩
end Go.Proofs.Ytomcgmialkdcbaa
namespace Go.Proofs.Ytomcgmialkdcbaa
open Go.ChangeShapes Go.WideShapes Go.ChangeAt Go.RowKit
section
variable {κ ε : Type} [DecidableEq κ]
end
section
variable {P : Program} {o : Oper} {L : List (Nat × Value)} {w w' : World} {x y z : Operand} {t T K E : TypeId} {v u : Value} {n d g i : Nat} {Kt : List (Nat × Value) → World → Prop} {M M' : Hp} {X : Fr} {H H' : List Rs}
variable {κ ε : Type} [DecidableEq κ] {kc : κ → Value} {vc : ε → Value} {es : List (κ × ε)}
theorem wo_runV (hd : o.dst = none) (hr : Run P o L w v w') (h : Kt L w') : WO P n o L w Kt := by
  intro a ha next Q hk
  unfold Oper.wp
  rw [hr n a ha, Oper.upon_value, hd]
  exact hk _ _ _ ha h
end
end Go.Proofs.Ytomcgmialkdcbaa
