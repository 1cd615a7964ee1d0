/- Part 8 of the proof of the law HomflyTells: the walks through its functions and the plain laws that they need. -/
import Derived.Test.YthppkofceancjaaGreatHfZ7
set_option linter.unusedSimpArgs false
set_option linter.unusedVariables false
namespace Go.Proofs.YthppkofceancjaaGreat
open Go.ChangeShapes Go.WideShapes Go.ChangeAt Go.RowKit
structure Val (d : Dg) : Prop where
  r : ∀ i s, i < d.crs.length → s < 4 → 1 ≤ arcAt d i s ∧ arcAt d i s ≤ 2 * (d.crs.length : Int)
  u : ∀ i s i' s', i < d.crs.length → s < 4 → i' < d.crs.length → s' < 4 → entryB d i s = entryB d i' s' → arcAt d i s = arcAt d i' s' → i = i' ∧ s = s'
theorem val_of {d : Dg} (h : arcsB d = true) : Val d := by
  refine ⟨fun i s hi hs => arcAt_bd h hi hs, fun i s i' s' hi hs hi' hs' he ha => ?_⟩
  obtain ⟨a1, a2⟩ := arcAt_bd h hi hs
  obtain ⟨n, hn⟩ : ∃ n : Nat, arcAt d i s = (n : Int) := ⟨(arcAt d i s).toNat, by omega⟩
  have hc : ∀ b, cntP d (n : Int) b (4 * d.crs.length) = 1 := fun b => by
    have := arcsB_out h n (by omega) (by omega)
    cases b
    · exact this.1
    · exact this.2
  obtain ⟨j, _, _, h3, _⟩ := cntP_one (hc (!entryB d i s))
  have e1 := h3 (4 * i + s) (by omega) (by rw [endP_at hs, hn]; simp)
  have e2 := h3 (4 * i' + s') (by omega) (by rw [endP_at hs', ← ha, hn, ← he]; simp)
  omega
def inM (d : Dg) (b : Bool) (m J : Nat) : Nat := (List.range J).countP fun j => decide (1 ≤ arcJ d j ∧ arcJ d j ≤ (m : Int)) && (entryB d (j / 4) (j % 4) != b)
theorem inM_succ (d : Dg) (b : Bool) (m J : Nat) : inM d b (m + 1) J = inM d b m J + cntP d ((m + 1 : Nat) : Int) b J := by
  induction J with
  | zero => simp [inM, cntP]
  | succ J ih =>
    have e : ∀ m, inM d b m (J + 1) = inM d b m J + if (decide (1 ≤ arcJ d J ∧ arcJ d J ≤ (m : Int)) && (entryB d (J / 4) (J % 4) != b)) = true then 1 else 0 := by
      intro m
      unfold inM
      rw [List.range_succ, List.countP_append, List.countP_singleton]
    rw [e, e, ih, cntP_succ]
    unfold endP
    have h1 : arcAt d (J / 4) (J % 4) = arcJ d J := rfl
    rw [h1]
    cases hE : (entryB d (J / 4) (J % 4) != b) with
    | false => simp
    | true =>
      simp only [Bool.and_true]
      by_cases hm : arcJ d J = ((m + 1 : Nat) : Int)
      · rw [if_pos (decide_eq_true (by omega)), if_neg (fun h => by have := of_decide_eq_true h; omega), if_pos (decide_eq_true hm)]; omega
      · rw [if_neg (fun h : decide (arcJ d J = _) = true => hm (of_decide_eq_true h))]
        by_cases h2 : 1 ≤ arcJ d J ∧ arcJ d J ≤ (m : Int)
        · rw [if_pos (decide_eq_true (by omega)), if_pos (decide_eq_true h2)]; omega
        · rw [if_neg (fun h => by have := of_decide_eq_true h; omega), if_neg (fun h => h2 (of_decide_eq_true h))]; omega
theorem inM_zero (d : Dg) (b : Bool) (J : Nat) : inM d b 0 J = 0 := by
  unfold inM
  rw [List.countP_eq_zero]
  intro j _ h
  simp at h
  omega
theorem inC_blk (d : Dg) (b : Bool) (i : Nat) : (List.range (4 * i)).countP (fun j => entryB d (j / 4) (j % 4) != b) = 2 * i := by
  induction i with
  | zero => rfl
  | succ i ih =>
    have e : List.range (4 * (i + 1)) = List.range (4 * i) ++ [4 * i, 4 * i + 1, 4 * i + 2, 4 * i + 3] := by
      rw [show 4 * (i + 1) = 4 * i + 1 + 1 + 1 + 1 by omega, List.range_succ, List.range_succ, List.range_succ, List.range_succ]
      simp
    rw [e, List.countP_append, ih]
    have q : ∀ s, s < 4 → (4 * i + s) / 4 = i ∧ (4 * i + s) % 4 = s := fun s hs => by omega
    have h0 := q 0 (by omega)
    have h1 := q 1 (by omega)
    have h2 := q 2 (by omega)
    have h3 := q 3 (by omega)
    rw [Nat.add_zero] at h0
    simp only [List.countP_cons, List.countP_nil, h0.1, h0.2, h1.1, h1.2, h2.1, h2.2, h3.1, h3.2]
    unfold entryB crIn
    cases (ga d.crs i).plus <;> cases b <;> simp <;> omega
theorem sum_ones {f : Nat → Nat} : ∀ m, (∀ a, a < m → f a ≤ 1) → m ≤ ((List.range m).map f).sum → ∀ a, a < m → f a = 1 := by
  intro m
  induction m with
  | zero => intro _ _ a ha; omega
  | succ m ih =>
    intro h1 h2 a ha
    rw [List.range_succ, List.map_append, List.sum_append] at h2
    simp only [List.map_cons, List.map_nil, List.sum_cons, List.sum_nil] at h2
    have hm := h1 m (by omega)
    have hs : ((List.range m).map f).sum ≤ m := by
      have : ∀ k, k ≤ m → ((List.range k).map f).sum ≤ k := by
        intro k
        induction k with
        | zero => intro _; exact Nat.le_refl _
        | succ k ihk =>
          intro hk
          rw [List.range_succ, List.map_append, List.sum_append]
          simp only [List.map_cons, List.map_nil, List.sum_cons, List.sum_nil]
          have := ihk (by omega)
          have := h1 k (by omega)
          omega
      exact this m (Nat.le_refl _)
    by_cases e : a = m
    · subst e; omega
    · exact ih (fun a ha => h1 a (by omega)) (by omega) a (by omega)
theorem inM_sum (d : Dg) (b : Bool) (J m : Nat) : inM d b m J = ((List.range m).map fun a => cntP d ((a + 1 : Nat) : Int) b J).sum := by
  induction m with
  | zero => exact inM_zero d b J
  | succ m ih => rw [inM_succ, ih, List.range_succ, List.map_append, List.sum_append]; simp
theorem cntP_le1 {d : Dg} (V : Val d) (a : Int) (b : Bool) : ∀ J, J ≤ 4 * d.crs.length → cntP d a b J ≤ 1 := by
  intro J
  induction J with
  | zero => intro _; simp [cntP]
  | succ J ih =>
    intro hJ
    rw [cntP_succ]
    by_cases hE : endP d a b J = true
    · rw [if_pos hE]
      have h0 : cntP d a b J = 0 := by
        unfold cntP
        rw [List.countP_eq_zero]
        intro j hj hE2
        have hj' : j < J := by simpa using hj
        unfold endP at hE hE2
        rw [Bool.and_eq_true, decide_eq_true_iff] at hE hE2
        have hx : entryB d (j / 4) (j % 4) = entryB d (J / 4) (J % 4) := by
          have h1 := hE.2; have h2 := hE2.2
          cases b <;> cases h3 : entryB d (j / 4) (j % 4) <;> cases h4 : entryB d (J / 4) (J % 4) <;> simp_all
        have := V.u (j / 4) (j % 4) (J / 4) (J % 4) (by omega) (by omega) (by omega) (by omega) hx (hE2.1.trans hE.1.symm)
        omega
      omega
    · rw [if_neg hE]
      have := ih (by omega)
      omega
theorem arcsB_val {d : Dg} (V : Val d) : arcsB d = true := by
  have key : ∀ b a, a < 2 * d.crs.length → cntP d ((a + 1 : Nat) : Int) b (4 * d.crs.length) = 1 := by
    intro b
    refine sum_ones (f := fun a => cntP d ((a + 1 : Nat) : Int) b (4 * d.crs.length)) _ (fun a _ => cntP_le1 V _ _ _ (Nat.le_refl _)) ?_
    rw [← inM_sum]
    have e : inM d b (2 * d.crs.length) (4 * d.crs.length) = 2 * d.crs.length := by
      refine Eq.trans ?_ (inC_blk d b d.crs.length)
      unfold inM
      refine List.countP_congr fun j hj => ?_
      have hj' : j < 4 * d.crs.length := by simpa using hj
      have := V.r (j / 4) (j % 4) (by omega) (by omega)
      have h2 : decide (1 ≤ arcJ d j ∧ arcJ d j ≤ ((2 * d.crs.length : Nat) : Int)) = true := decide_eq_true (by unfold arcJ; push_cast; exact this)
      rw [h2, Bool.true_and]
    omega
  refine arcsB_yes fun a h0 h1 => ?_
  unfold arcOk
  have e := fun b => key b (a - 1) (by omega)
  simp only [show a - 1 + 1 = a by omega] at e
  rw [e false, e true]; rfl
/-- Which place of the crossing a place of the changed one was. -/
def rho (x : Cr) (s : Nat) : Nat := if x.plus = true then (s + 3) % 4 else (s + 1) % 4
theorem chg_arc (x : Cr) {s : Nat} (hs : s < 4) : crArc (chg x) s = crArc x (rho x s) ∧ crIn (chg x) s = crIn x (rho x s) ∧ rho x s < 4 := by
  have h4 : rho x s < 4 := by unfold rho; split <;> omega
  have : s = 0 ∨ s = 1 ∨ s = 2 ∨ s = 3 := by omega
  refine ⟨?_, ?_, h4⟩ <;> (clear h4; obtain ⟨a, b, c, d, p⟩ := x; cases p <;> rcases this with rfl | rfl | rfl | rfl <;> rfl)
theorem rho_inj (x : Cr) {s t : Nat} (hs : s < 4) (ht : t < 4) (h : rho x s = rho x t) : s = t := by
  unfold rho at h
  split at h <;> omega
theorem chD_len (d : Dg) (k : Nat) : (chD d k).crs.length = d.crs.length := List.length_set ..
def rhoK (d : Dg) (k i s : Nat) : Nat := if i = k then rho (ga d.crs k) s else s
theorem chD_at (d : Dg) {k i s : Nat} (hk : k < d.crs.length) (hs : s < 4) : arcAt (chD d k) i s = arcAt d i (rhoK d k i s) ∧ entryB (chD d k) i s = entryB d i (rhoK d k i s) ∧ rhoK d k i s < 4 := by
  unfold arcAt entryB chD rhoK
  dsimp only
  rw [ga_set _ _ _ _ hk]
  by_cases e : k = i
  · subst e
    rw [if_pos rfl, if_pos rfl]
    exact chg_arc _ hs
  · rw [if_neg e, if_neg (fun h => e h.symm)]
    exact ⟨rfl, rfl, hs⟩
theorem chD_val {d : Dg} (V : Val d) {k : Nat} (hk : k < d.crs.length) : Val (chD d k) := by
  refine ⟨fun i s hi hs => ?_, fun i s i' s' hi hs hi' hs' he ha => ?_⟩
  · rw [chD_len] at hi ⊢
    obtain ⟨e1, _, e3⟩ := chD_at d (i := i) hk hs
    rw [e1]; exact V.r i _ hi e3
  · rw [chD_len] at hi hi'
    obtain ⟨e1, e2, e3⟩ := chD_at d (i := i) hk hs
    obtain ⟨f1, f2, f3⟩ := chD_at d (i := i') hk hs'
    rw [e1, f1] at ha
    rw [e2, f2] at he
    obtain ⟨g1, g2⟩ := V.u i _ i' _ hi e3 hi' f3 he ha
    subst g1
    refine ⟨rfl, ?_⟩
    unfold rhoK at g2
    split at g2
    · exact rho_inj _ hs hs' g2
    · exact g2
theorem chD_arcs {d : Dg} (h : arcsB d = true) {k : Nat} (hk : k < d.crs.length) : arcsB (chD d k) = true := arcsB_val (chD_val (val_of h) hk)
/-- Where an arc comes in. -/
theorem end_iff {d : Dg} (h : arcsB d = true) {a : Nat} (h0 : 1 ≤ a) (h1 : a ≤ 2 * d.crs.length) {i s : Nat} (hi : i < d.crs.length) (hs : s < 4) (ha : arcAt d i s = (a : Int)) (he : entryB d i s = true) : endOf d (a : Int) false = (i, s) := by
  obtain ⟨e1, e2, _, e4, e5⟩ := endOf_lt h h0 h1 false
  have := (val_of h).u _ _ i s e1 e2 hi hs (by rw [e5, he]; rfl) (by rw [e4, ha])
  exact Prod.ext this.1 this.2
def rhoI (d : Dg) (k i s : Nat) : Nat := if i = k then (if (ga d.crs k).plus = true then (s + 1) % 4 else (s + 3) % 4) else s
theorem rhoK_I (d : Dg) (k i : Nat) {s : Nat} (hs : s < 4) : rhoK d k i (rhoI d k i s) = s ∧ rhoI d k i s < 4 := by
  unfold rhoK rhoI rho
  by_cases e : i = k
  · rw [if_pos e, if_pos e]; split <;> omega
  · rw [if_neg e, if_neg e]; exact ⟨rfl, hs⟩
theorem chD_end {d : Dg} (h : arcsB d = true) {k : Nat} (hk : k < d.crs.length) {a : Nat} (h0 : 1 ≤ a) (h1 : a ≤ 2 * d.crs.length) : endOf (chD d k) (a : Int) false = ((endOf d (a : Int) false).1, rhoI d k (endOf d (a : Int) false).1 (endOf d (a : Int) false).2) := by
  obtain ⟨e1, e2, _, e4, e5⟩ := endOf_lt h h0 h1 false
  obtain ⟨r1, r2⟩ := rhoK_I d k (endOf d (a : Int) false).1 e2
  obtain ⟨c1, c2, _⟩ := chD_at d (i := (endOf d (a : Int) false).1) hk r2
  rw [r1] at c1 c2
  exact end_iff (chD_arcs h hk) h0 (by rw [chD_len]; exact h1) (by rw [chD_len]; exact e1) r2 (by rw [c1, e4]) (by rw [c2, e5]; rfl)
theorem chD_next {d : Dg} (h : arcsB d = true) {k : Nat} (hk : k < d.crs.length) {a : Nat} (h0 : 1 ≤ a) (h1 : a ≤ 2 * d.crs.length) : nextN (chD d k) a = nextN d a := by
  unfold nextN nextA
  rw [chD_end h hk h0 h1]
  dsimp only
  obtain ⟨e1, e2, _⟩ := endOf_lt h h0 h1 false
  obtain ⟨r1, r2⟩ := rhoK_I d k (endOf d (a : Int) false).1 e2
  obtain ⟨c1, _, _⟩ := chD_at d (i := (endOf d (a : Int) false).1) (s := (rhoI d k (endOf d (a : Int) false).1 (endOf d (a : Int) false).2 + 2) % 4) hk (by omega)
  rw [c1]
  congr 2
  unfold rhoK rhoI rho
  by_cases e : (endOf d (a : Int) false).1 = k
  · rw [if_pos e, if_pos e]; split <;> omega
  · rw [if_neg e, if_neg e]
theorem ringF_congr {nx nx' : Nat → Nat} {N : Nat} (h : ∀ a, 1 ≤ a → a < N → nx a = nx' a ∧ 1 ≤ nx a ∧ nx a < N) (seen : List Bool) (hl : seen.length = N) (x : Nat) (hx : 1 ≤ x) (acc : List Int) : ringF nx seen x acc = ringF nx' seen x acc := by
  induction hk : free seen using Nat.strongRecOn generalizing seen x acc with
  | _ k ih =>
    by_cases hc : x < seen.length ∧ ga seen x = false
    · rw [ringF_go hc.1 hc.2, ringF_go hc.1 hc.2]
      have := free_set hc.1 hc.2
      obtain ⟨a1, a2, a3⟩ := h x hx (by omega)
      rw [← a1]
      exact ih (free (seen.set x true)) (by omega) _ (by rw [List.length_set]; exact hl) _ a2 _ rfl
    · rw [show ringF nx seen x acc = (seen, acc) from by rw [ringF]; simp [hc], show ringF nx' seen x acc = (seen, acc) from by rw [ringF]; simp [hc]]
theorem ringsF_congr {nx nx' : Nat → Nat} {N : Nat} (h : ∀ a, 1 ≤ a → a < N → nx a = nx' a ∧ 1 ≤ nx a ∧ nx a < N) (A : Nat) : ringsF nx N A = ringsF nx' N A := by
  induction A with
  | zero => rfl
  | succ A ih =>
    unfold ringsF
    dsimp only
    rw [ih, ringF_congr h _ (ringsF_len _ _ _) _ (by omega)]
theorem chD_strands {d : Dg} (h : arcsB d = true) {k : Nat} (hk : k < d.crs.length) : strandsL (chD d k) = strandsL d := by
  unfold strandsL
  rw [chD_len]
  refine congrArg Prod.snd (ringsF_congr (fun a h0 h1 => ?_) _)
  have e := chD_next h hk h0 (by omega)
  obtain ⟨_, n1, n2⟩ := nextN_eq h h0 (by omega)
  rw [e]
  exact ⟨rfl, n1, by omega⟩
def m1 (p q x : Nat) : Nat := if x = max p q then min p q else x
def m2 (p q r s x : Nat) : Nat := m1 (m1 p q r) (m1 p q s) (m1 p q x)
theorem m2_inj {p q r s a b : Nat} (h1 : p ≠ r) (h2 : q ≠ s) (a1 : a ≠ p) (a2 : a ≠ r) (b1 : b ≠ p) (b2 : b ≠ r) (e : m2 p q r s a = m2 p q r s b) : a = b := by
  unfold m2 m1 at e
  (repeat' split at e) <;> omega
theorem m2_sym (p q r s x : Nat) : m2 p q r s x = m2 q p s r x := by
  unfold m2 m1
  rw [Nat.max_comm p q, Nat.min_comm p q, Nat.max_comm (if r = _ then _ else _), Nat.min_comm (if r = _ then _ else _)]
/-- In each class of an arc that does not go in there is one that does not come out. -/
theorem m2_other {p q r s a : Nat} (h1 : p ≠ r) (h2 : q ≠ s) (a1 : a ≠ p) (a2 : a ≠ r) : ∃ b, (b = a ∨ b = p ∨ b = r) ∧ b ≠ q ∧ b ≠ s ∧ m2 p q r s b = m2 p q r s a := by
  have e1 : m2 p q r s p = m2 p q r s q := by unfold m2 m1; (repeat' split) <;> omega
  have e2 : m2 p q r s r = m2 p q r s s := by unfold m2 m1; (repeat' split) <;> omega
  by_cases q1 : a = q
  · by_cases q2 : p = s
    · exact ⟨r, .inr (.inr rfl), by omega, by omega, e2.trans ((congrArg (m2 p q r s) q2.symm).trans (e1.trans (congrArg (m2 p q r s) q1.symm)))⟩
    · exact ⟨p, .inr (.inl rfl), by omega, q2, e1.trans (congrArg (m2 p q r s) q1.symm)⟩
  · by_cases q2 : a = s
    · by_cases q3 : r = q
      · exact ⟨p, .inr (.inl rfl), by omega, by omega, e1.trans ((congrArg (m2 p q r s) q3.symm).trans (e2.trans (congrArg (m2 p q r s) q2.symm)))⟩
      · exact ⟨r, .inr (.inr rfl), q3, by omega, e2.trans (congrArg (m2 p q r s) q2.symm)⟩
    · exact ⟨a, .inl rfl, q1, q2, rfl⟩
theorem smC_m2 (d : Dg) (k : Nat) (hb : sp1 d k < 2 * d.crs.length + 1 ∧ sq1 d k < 2 * d.crs.length + 1 ∧ sp2 d k < 2 * d.crs.length + 1 ∧ sq2 d k < 2 * d.crs.length + 1) {x : Nat} (hx : x < 2 * d.crs.length + 1) : ga (smC d k) x = (m2 (sp1 d k) (sq1 d k) (sp2 d k) (sq2 d k) x : Int) := by
  have c0 : ∀ y, y < 2 * d.crs.length + 1 → ga (clsG (sE1 d k) (sE2 d k) (2 * d.crs.length + 1) 0) y = (y : Int) := clsG_zero _ _ _
  have c1 : ∀ y, y < 2 * d.crs.length + 1 → ga (clsG (sE1 d k) (sE2 d k) (2 * d.crs.length + 1) 1) y = (m1 (sp1 d k) (sq1 d k) y : Int) := fun y hy => by
    have h := clsG_ga (sE1 d k) (sE2 d k) (2 * d.crs.length + 1) 0 y hy
    rw [h]
    unfold frG toG
    have e1 : sE1 d k 0 = sp1 d k := rfl
    have e2 : sE2 d k 0 = sq1 d k := rfl
    rw [e1, e2, c0 y hy, c0 _ hb.1, c0 _ hb.2.1]
    unfold m1
    by_cases e : y = max (sp1 d k) (sq1 d k)
    · rw [if_pos e, if_pos (by omega)]; omega
    · rw [if_neg e, if_neg (by omega)]
  have h := clsG_ga (sE1 d k) (sE2 d k) (2 * d.crs.length + 1) 1 x hx
  show ga (clsG (sE1 d k) (sE2 d k) (2 * d.crs.length + 1) 2) x = _
  rw [h]
  unfold frG toG
  have e1 : sE1 d k 1 = sp2 d k := rfl
  have e2 : sE2 d k 1 = sq2 d k := rfl
  rw [e1, e2, c1 x hx, c1 _ hb.2.2.1, c1 _ hb.2.2.2]
  unfold m2
  generalize m1 (sp1 d k) (sq1 d k) x = u
  generalize m1 (sp1 d k) (sq1 d k) (sp2 d k) = v
  generalize m1 (sp1 d k) (sq1 d k) (sq2 d k) = z
  unfold m1
  by_cases e : u = max v z
  · rw [if_pos e, if_pos (by omega)]; omega
  · rw [if_neg e, if_neg (by omega)]
def skp (k i : Nat) : Nat := if i < k then i else i + 1
theorem remN_ga (d : Dg) (k : Nat) : ∀ c, c ≤ d.crs.length → (remN d k c).length = (if k < c then c - 1 else c) ∧ ∀ i, i < (remN d k c).length → ga (remN d k c) i = ga d.crs (skp k i) := by
  intro c
  induction c with
  | zero => intro _; exact ⟨rfl, fun i hi => by simp [remN] at hi⟩
  | succ c ih =>
    intro hc
    obtain ⟨l1, g1⟩ := ih (by omega)
    rw [remN]
    by_cases e : c = k
    · rw [if_pos e]
      refine ⟨by rw [l1, if_neg (by omega), if_pos (by omega)]; omega, g1⟩
    · rw [if_neg e]
      have hl : (remN d k c ++ [ga d.crs c]).length = (if k < c + 1 then c + 1 - 1 else c + 1) := by
        rw [List.length_append, List.length_singleton, l1]
        split <;> split <;> omega
      refine ⟨hl, fun i hi => ?_⟩
      rw [List.length_append, List.length_singleton] at hi
      by_cases hi2 : i < (remN d k c).length
      · rw [ga_append_left _ _ _ hi2, g1 i hi2]
      · have : i = (remN d k c).length := by omega
        rw [this, ga_append_right _ _ _ (Nat.le_refl _), Nat.sub_self]
        show ga d.crs c = _
        congr 1
        rw [l1]
        unfold skp
        split <;> split <;> omega
theorem remL_ga (d : Dg) {k : Nat} (hk : k < d.crs.length) : (remL d k).length = d.crs.length - 1 ∧ ∀ i, i < d.crs.length - 1 → ga (remL d k) i = ga d.crs (skp k i) := by
  obtain ⟨h1, h2⟩ := remN_ga d k d.crs.length (Nat.le_refl _)
  rw [if_pos hk] at h1
  exact ⟨h1, fun i hi => h2 i (by omega)⟩
theorem skp_lt {k i n : Nat} (h : i < n - 1) : skp k i < n ∧ skp k i ≠ k := by unfold skp; split <;> omega
theorem skp_inj {k i j : Nat} (h : skp k i = skp k j) : i = j := by unfold skp at h; split at h <;> split at h <;> omega
theorem skp_sur {k i n : Nat} (h : i < n) (hk : k < n) (hne : i ≠ k) : ∃ j, j < n - 1 ∧ skp k j = i := by
  by_cases e : i < k
  · exact ⟨i, by omega, by unfold skp; rw [if_pos e]⟩
  · exact ⟨i - 1, by omega, by unfold skp; rw [if_neg (by omega)]; omega⟩
end Go.Proofs.YthppkofceancjaaGreat
namespace Go.Proofs.YthppkofceancjaaGreat
open Go.ChangeShapes Go.WideShapes Go.ChangeAt Go.RowKit
theorem ringF_rng {nx : Nat → Nat} {N : Nat} (hnx : ∀ x, 1 ≤ x → x ≤ N → 1 ≤ nx x ∧ nx x ≤ N) (seen : List Bool) (x : Nat) (acc : List Int) (hx : 1 ≤ x ∧ x ≤ N) (ha : ∀ y ∈ acc, 1 ≤ y ∧ y ≤ (N : Int)) : ∀ y ∈ (ringF nx seen x acc).2, 1 ≤ y ∧ y ≤ (N : Int) := by
 induction hk : free seen using Nat.strongRecOn generalizing seen x acc with
 | _ k ih =>
  by_cases h : x < seen.length ∧ ga seen x = false
  ·rw [ringF_go h.1 h.2]
   have := free_set h.1 h.2
   refine ih (free (seen.set x true)) (by omega) _ _ _ (hnx x hx.1 hx.2) (fun y hy => ?_) rfl
   rcases List.mem_append.1 hy with hy | hy
   ·exact ha y hy
   ·rw [List.mem_singleton] at hy; omega
  ·rw [ringF]
   simp only [h, dite_false]
   exact ha
theorem ringsF_rng {nx : Nat → Nat} {N : Nat} (hnx : ∀ x, 1 ≤ x → x ≤ N → 1 ≤ nx x ∧ nx x ≤ N) (K A : Nat) (hA : A ≤ N) : ∀ r ∈ (ringsF nx K A).2, ∀ y ∈ r, 1 ≤ y ∧ y ≤ (N : Int) := by
 induction A with
 | zero => intro r hr; simp [ringsF] at hr
 | succ A ih =>
  by_cases h : ga (ringsF nx K A).1 (A + 1) = true
  ·rw [ringsF_skip h]; exact ih (by omega)
  ·rw [ringsF_ring (by simpa using h)]
   intro r hr
   rcases List.mem_append.1 hr with hr | hr
   ·exact ih (by omega) r hr
   ·rw [List.mem_singleton] at hr
    subst hr
    exact ringF_rng hnx _ _ _ (by omega) (by simp)
theorem strands_rng {d : Dg} (h : arcsB d = true) {i : Nat} (hi : i < (strandsL d).length) : ∀ y ∈ ga (strandsL d) i, 1 ≤ y ∧ y ≤ ((2 * d.crs.length : Nat) : Int) :=
 ringsF_rng (fun x h1 h2 => (nextN_eq h h1 h2).2) _ _ (Nat.le_refl _) _ (by rw [ga_eq hi]; exact List.getElem_mem hi)
noncomputable def within_n0 : Code := Tryz.f77.body.getD .skip
noncomputable def within_n1 : Code := cL within_n0
noncomputable def within_n2 : Code := cR within_n0
noncomputable def within_n3 : Code := cL within_n2
noncomputable def within_n4 : Code := cR within_n2
noncomputable def within_n5 : Code := cL within_n3
noncomputable def within_n6 : Code := cR within_n3
noncomputable def within_n7 : Code := cL within_n6
noncomputable def within_n8 : Code := cL within_n7
noncomputable def within_n9 : Code := cL within_n8
noncomputable def within_n10 : Code := cR within_n8
noncomputable def within_n11 : Code := cL within_n9
noncomputable def within_n12 : Code := cR within_n9
noncomputable def within_n13 : Code := cL within_n12
noncomputable def within_n14 : Code := cR within_n12
noncomputable def within_n15 : Code := cL within_n10
noncomputable def within_n16 : Code := cR within_n10
noncomputable def within_n17 : Code := cL within_n15
noncomputable def within_n18 : Code := cL within_n17
noncomputable def within_n19 : Code := cR within_n17
noncomputable def within_n20 : Code := cL within_n19
noncomputable def within_n21 : Code := cR within_n19
noncomputable def within_n22 : Code := cL within_n20
noncomputable def within_n23 : Code := cR within_n20
noncomputable def within_n24 : Code := cL within_n4
noncomputable def within_n25 : Code := cR within_n4
set_option maxRecDepth 10000 in
theorem within_q {w : World} {M : Hp} {X : Fr} (l : List Int) {lA : Option Addr} {lc : Nat} (x : Int) (hl : RdA cdInt (M.un X.h) lA lc l) (S : SH w M X []) : Cq Tryz.prog 77 [.slice lA l.length lc, .int .i64 x] w M X (fun u => u = .bool (l.contains x)) := by
 unfold Cq
 have rmhl : l.length * 8 ≤ 140737488355328 := hl.room
 refine calls_in (b := within_n0) Tryz.func77 rfl Tryz.ntmps77 rfl (fun C hC => (ws_sub [(0, _), (1, _)] ⟨rfl, rfl, trivial⟩ (ws_seqN within_n1 within_n2 rfl rfl rfl (ws_region rfl (wla 0 1 rfl rfl rfl rfl rfl rfl rfl (wl_end rfl (nmk [0, 1] rfl (nm_thn (ws_seqN within_n3 within_n4 rfl rfl rfl ?_)))))))))
 refine ws_seqN within_n5 within_n6 rfl rfl rfl (ws_region rfl (wla 0 1 rfl rfl rfl rfl rfl rfl rfl (wl_end rfl (nm_thn (ws_blockN within_n7 0 rfl rfl rfl ?_)))))
 refine ws_loopE (fun mx_ ax_ wx_ => ∃ (i : Nat), mx_ = l.length - i ∧ Env 18 [(0, .slice lA l.length lc), (1, .int .i64 x), (5, .int .i64 (i : Int))] ax_ ∧ SH wx_ M X [] ∧ i ≤ l.length ∧ (∀ j, j < i → ga l j ≠ x)) rfl ?_ ?_
 ·intro ax_ hax_
  refine ⟨_, ⟨0, rfl, hax_.sub ⟨rfl, rfl, rfl, trivial⟩, S.pick [] [] (by decide) trivial, ?hq1f0, ?hq1f1⟩⟩
  case hq1f0 => omega
  case hq1f1 => (intro j hj; omega)
 ·rintro m1 a1 w1 ⟨i, rfl, he1, S1, hi, hno⟩
  clear S
  refine ws_in he1 (c := within_n8) rfl ?_
  clear he1 a1
  refine ws_seqN within_n9 within_n10 rfl rfl rfl (ws_seqN within_n11 within_n12 rfl rfl rfl (ws_region rfl (wlm 0 1 rfl rfl rfl rfl rfl rfl rfl (wlm 1 2 rfl rfl rfl rfl rfl rfl rfl (wlo 2 3 rfl rfl rfl (wo_run rfl rfl (run_len rfl rfl rfl rfl rfl rfl Tryz.underlying53) (wlo 3 4 rfl rfl rfl (wo_run rfl rfl (run_lss rfl rfl rfl) (wl_end rfl (nmk [0, 1, 5, 9] rfl ?_))))))))))
  refine nm_thn ?_
  refine ws_condN within_n13 within_n14 rfl rfl rfl rfl (fun hb9 => ?_) (fun hb9 => ?_)
  ·replace hb9 := of_decide_eq_true hb9
   refine ws_skip rfl (nmk [0, 1, 5] rfl (nm_thn (ws_seqN within_n15 within_n16 rfl rfl rfl (ws_blockN within_n17 1 rfl rfl rfl (ws_seqN within_n18 within_n19 rfl rfl rfl (ws_region rfl (wlm 0 1 rfl rfl rfl rfl rfl rfl rfl (wlm 1 2 rfl rfl rfl rfl rfl rfl rfl ?_))))))))
   refine wlo 2 3 rfl rfl rfl (wo_run rfl rfl (run_indexM (C := cdInt) i rfl rfl rfl sl53 (by first | rfl | omega) hl (by first | omega | (simp only [lens]; omega))) ?_)
   refine wlo 3 4 rfl rfl rfl (wo_run rfl rfl (run_load1 rfl rfl Tryz.underlying3 rfl (hl.cell S1.um (i := i) (by first | omega | (simp only [lens]; omega)) 0 rfl rfl)) ?_)
   refine wlm 4 5 rfl rfl rfl rfl rfl rfl rfl (wlo 5 6 rfl rfl rfl (wo_run rfl rfl (run_eql rfl rfl rfl) (wl_end rfl (nmk [0, 1, 5, 17] rfl (nm_thn ?_)))))
   refine ws_condN within_n20 within_n21 rfl rfl rfl rfl (fun hb17 => ?_) (fun hb17 => ?_)
   ·replace hb17 := of_decide_eq_true hb17
    refine ws_seqN within_n22 within_n23 rfl rfl rfl (ws_region rfl (wla 0 1 rfl rfl rfl rfl rfl rfl rfl (wl_end rfl (nmk [4] rfl (nm_thn (ws_ret hC [_] rfl rfl ⟨rfl, trivial⟩ ?_))))))
    exact ⟨_, rfl, (S1.pick [] [] (by decide) trivial), (by show Value.bool _ = _; refine congrArg Value.bool ?_; symm; first | (rw [List.contains_iff_mem]; exact (by assumption : ga l i = x) ▸ ga_mem (by omega)) | (rw [Bool.eq_false_iff, Ne, List.contains_iff_mem]; intro hm; obtain ⟨j, hj, e⟩ := List.mem_iff_getElem.1 hm; exact hno j (by omega) (by rw [ga_eq hj]; exact e)))⟩
   ·replace hb17 := of_decide_eq_false hb17
    refine ws_skip rfl (nm_blk (nmk [0, 1, 5] rfl (nm_thn (ws_region rfl (wlm 0 1 rfl rfl rfl rfl rfl rfl rfl (wlo 1 2 rfl rfl rfl (wo_run rfl rfl (run_add rfl rfl rfl (by first | omega | (simp only [lens]; omega))) ?_)))))))
    refine wla 2 3 rfl rfl rfl rfl rfl rfl rfl (wl_end rfl (nm_lp ?_))
    intro ax_ hax_
    refine ⟨_, ?hq2m, ⟨i + 1, rfl, hax_.sub ⟨rfl, rfl, rfl, trivial⟩, S1.pick [] [] (by decide) trivial, ?hq2f0, ?hq2f1⟩⟩
    case hq2f0 => omega
    case hq2f1 => (intro j hj; by_cases e : j = i; (subst e; assumption); exact hno j (by omega))
    case hq2m => omega
  ·replace hb9 := of_decide_eq_false hb9
   refine ws_exit rfl rfl (nm_sub [] trivial (nm_thn (ws_seqN within_n24 within_n25 rfl rfl rfl (ws_region rfl (wla 0 1 rfl rfl rfl rfl rfl rfl rfl (wl_end rfl (nm_thn (ws_ret hC [_] rfl rfl ⟨rfl, trivial⟩ ?_))))))))
   exact ⟨_, rfl, (S1.pick [] [] (by decide) trivial), (by show Value.bool _ = _; refine congrArg Value.bool ?_; symm; first | (rw [List.contains_iff_mem]; exact (by assumption : ga l i = x) ▸ ga_mem (by omega)) | (rw [Bool.eq_false_iff, Ne, List.contains_iff_mem]; intro hm; obtain ⟨j, hj, e⟩ := List.mem_iff_getElem.1 hm; exact hno j (by omega) (by rw [ga_eq hj]; exact e)))⟩
end Go.Proofs.YthppkofceancjaaGreat
namespace Go.Proofs.YthppkofceancjaaGreat
open Go.ChangeShapes Go.WideShapes Go.ChangeAt Go.RowKit
theorem nuC_arc (cl : List Int) (l : List Cr) (v : Cr) {s : Nat} (hs : s < 4) : crArc (nuC cl l v) s = nuA cl l (crArc v s) ∧ crIn (nuC cl l v) s = crIn v s := by
  have : s = 0 ∨ s = 1 ∨ s = 2 ∨ s = 3 := by omega
  rcases this with rfl | rfl | rfl | rfl <;> exact ⟨rfl, rfl⟩
theorem smD_len (d : Dg) {k : Nat} (hk : k < d.crs.length) : (smD d k).crs.length = d.crs.length - 1 := by
  show (List.map _ _).length = _
  rw [List.length_map, (remL_ga d hk).1]
theorem smD_at (d : Dg) {k i s : Nat} (hk : k < d.crs.length) (hi : i < d.crs.length - 1) (hs : s < 4) : arcAt (smD d k) i s = nuA (smC d k) (remL d k) (arcAt d (skp k i) s) ∧ entryB (smD d k) i s = entryB d (skp k i) s := by
  obtain ⟨h1, h2⟩ := remL_ga d hk
  unfold arcAt entryB
  have e : ga (smD d k).crs i = nuC (smC d k) (remL d k) (ga d.crs (skp k i)) := by
    show ga (List.map _ _) i = _
    rw [ga_map _ _ _ (by omega), h2 i hi]
  rw [e]
  exact nuC_arc _ _ _ hs
/-- The four arcs at a crossing. -/
theorem at_k {d : Dg} (h : arcsB d = true) {k : Nat} (hk : k < d.crs.length) : ∃ o, (o = 1 ∨ o = 3) ∧ entryB d k 0 = true ∧ entryB d k o = true ∧ entryB d k 2 = false ∧ entryB d k (4 - o) = false ∧ arcAt d k 0 = (sp1 d k : Int) ∧ arcAt d k o = (sp2 d k : Int) ∧ arcAt d k 2 = (sq2 d k : Int) ∧ arcAt d k (4 - o) = (sq1 d k : Int) := by
  obtain ⟨⟨a1, a2⟩, ⟨b1, b2⟩, ⟨c1, c2⟩, ⟨e1, e2⟩⟩ := sm_bd h hk
  have ha : 1 ≤ (ga d.crs k).a := (arcAt_bd h hk (k := 0) (by omega)).1
  have hb : 1 ≤ (ga d.crs k).b := (arcAt_bd h hk (k := 1) (by omega)).1
  have hc : 1 ≤ (ga d.crs k).c := (arcAt_bd h hk (k := 2) (by omega)).1
  have hd : 1 ≤ (ga d.crs k).d := (arcAt_bd h hk (k := 3) (by omega)).1
  unfold sp1 sp2 sq1 sq2 arcAt entryB
  cases hp : (ga d.crs k).plus with
  | true =>
    refine ⟨3, .inr rfl, rfl, by unfold crIn; simp [hp], rfl, by unfold crIn; simp [hp], ?_, ?_, ?_, ?_⟩
    · show (ga d.crs k).a = _; omega
    · show (ga d.crs k).d = _; unfold abv; rw [if_pos hp]; simp only; omega
    · show (ga d.crs k).c = _; omega
    · show (ga d.crs k).b = _; unfold abv; rw [if_pos hp]; simp only; omega
  | false =>
    refine ⟨1, .inl rfl, rfl, by unfold crIn; simp [hp], rfl, by unfold crIn; simp [hp], ?_, ?_, ?_, ?_⟩
    · show (ga d.crs k).a = _; omega
    · show (ga d.crs k).b = _; unfold abv; rw [if_neg (by simp [hp])]; simp only; omega
    · show (ga d.crs k).c = _; omega
    · show (ga d.crs k).d = _; unfold abv; rw [if_neg (by simp [hp])]; simp only; omega
theorem at_in {d : Dg} (h : arcsB d = true) {k : Nat} (hk : k < d.crs.length) {s : Nat} (hs : s < 4) (he : entryB d k s = true) : arcAt d k s = (sp1 d k : Int) ∨ arcAt d k s = (sp2 d k : Int) := by
  obtain ⟨o, ho, e0, eo, e2, e4, a0, ao, _⟩ := at_k h hk
  have : s = 0 ∨ s = 1 ∨ s = 2 ∨ s = 3 := by omega
  rcases this with rfl | rfl | rfl | rfl
  · exact .inl a0
  · rcases ho with rfl | rfl
    · exact .inr ao
    · rw [show 4 - 3 = 1 from rfl, he] at e4; cases e4
  · rw [he] at e2; cases e2
  · rcases ho with rfl | rfl
    · rw [show 4 - 1 = 3 from rfl, he] at e4; cases e4
    · exact .inr ao
theorem at_ne {d : Dg} (h : arcsB d = true) {k : Nat} (hk : k < d.crs.length) : sp1 d k ≠ sp2 d k ∧ sq1 d k ≠ sq2 d k ∧ ∀ i s, i < d.crs.length → s < 4 → i ≠ k → (entryB d i s = true → arcAt d i s ≠ (sp1 d k : Int) ∧ arcAt d i s ≠ (sp2 d k : Int)) ∧ (entryB d i s = false → arcAt d i s ≠ (sq1 d k : Int) ∧ arcAt d i s ≠ (sq2 d k : Int)) := by
  have V := val_of h
  obtain ⟨o, ho, e0, eo, e2, e4, a0, ao, a2, a4⟩ := at_k h hk
  have o4 : o < 4 ∧ 4 - o < 4 ∧ o ≠ 0 ∧ 4 - o ≠ 2 := by omega
  refine ⟨fun e => ?_, fun e => ?_, fun i s hi hs hne => ⟨fun hE => ⟨fun e => ?_, fun e => ?_⟩, fun hE => ⟨fun e => ?_, fun e => ?_⟩⟩⟩
  · exact o4.2.2.1 (V.u k 0 k o hk (by omega) hk o4.1 (by rw [e0, eo]) (by rw [a0, ao, e])).2.symm
  · exact o4.2.2.2 (V.u k (4 - o) k 2 hk o4.2.1 hk (by omega) (by rw [e2, e4]) (by rw [a2, a4, e])).2
  · exact hne (V.u i s k 0 hi hs hk (by omega) (by rw [hE, e0]) (by rw [e, a0])).1
  · exact hne (V.u i s k o hi hs hk o4.1 (by rw [hE, eo]) (by rw [e, ao])).1
  · exact hne (V.u i s k (4 - o) hi hs hk o4.2.1 (by rw [hE, e4]) (by rw [e, a4])).1
  · exact hne (V.u i s k 2 hi hs hk (by omega) (by rw [hE, e2]) (by rw [e, a2])).1
def cK (d : Dg) (k x : Nat) : Nat := m2 (sp1 d k) (sq1 d k) (sp2 d k) (sq2 d k) x
theorem cK_ga {d : Dg} (h : arcsB d = true) {k : Nat} (hk : k < d.crs.length) {x : Nat} (hx : x < 2 * d.crs.length + 1) : ga (smC d k) x = (cK d k x : Int) := by
  obtain ⟨⟨_, a2⟩, ⟨_, b2⟩, ⟨_, c2⟩, ⟨_, e2⟩⟩ := sm_bd h hk
  exact smC_m2 d k ⟨a2, b2, c2, e2⟩ hx
theorem rem_at (d : Dg) {k i s : Nat} (hk : k < d.crs.length) (hi : i < d.crs.length - 1) : ga d.crs (skp k i) ∈ remL d k := by
  obtain ⟨h1, h2⟩ := remL_ga d hk
  rw [← h2 i hi]; exact ga_mem (by omega)
theorem rem_rt {d : Dg} (h : arcsB d = true) {k : Nat} (hk : k < d.crs.length) {i s : Nat} (hi : i < d.crs.length - 1) (hs : s < 4) : rtB2 (smC d k) (remL d k) (cK d k (arcAt d (skp k i) s).toNat) = true ∧ nuA (smC d k) (remL d k) (arcAt d (skp k i) s) = (cn (rtB2 (smC d k) (remL d k)) (cK d k (arcAt d (skp k i) s).toNat + 1) : Int) := by
  have hv := rem_at d (s := s) hk hi
  have ha := rem_arc h (Nat.le_refl _) hv hs
  change 1 ≤ arcAt d (skp k i) s ∧ arcAt d (skp k i) s ≤ _ at ha
  have hx : (arcAt d (skp k i) s).toNat < 2 * d.crs.length + 1 := by omega
  have hc := cK_ga h hk hx
  have hp := sm_pos h hk (x := (arcAt d (skp k i) s).toNat) (by omega) hx
  have hl := rem_left hv hs
  change lfL (smC d k) (remL d k) (ga (smC d k) (arcAt d (skp k i) s).toNat) = true at hl
  obtain ⟨o1, o2, o3⟩ := (smN_ok h hk 2 (Nat.le_refl _)).2 (arcAt d (skp k i) s).toNat hx
  have e : smN d k 2 = smC d k := rfl
  rw [e] at o1 o2 o3
  rw [hc] at hl o3 hp
  rw [Int.toNat_natCast] at o3
  refine ⟨?_, ?_⟩
  · unfold rtB2
    rw [hl, decide_eq_true (show 1 ≤ cK d k (arcAt d (skp k i) s).toNat by omega), decide_eq_true o3]; rfl
  · unfold nuA; rw [hc, Int.toNat_natCast]
theorem cn_str {P : Nat → Bool} {x y : Nat} (hx : P x = true) (hy : P y = true) (e : cn P (x + 1) = cn P (y + 1)) : x = y := by
  have mono : ∀ a b, a ≤ b → cn P a ≤ cn P b := by
    intro a b hab
    induction b with
    | zero => obtain rfl : a = 0 := by omega
              exact Nat.le_refl _
    | succ b ih =>
      by_cases h : a = b + 1
      · rw [h]; exact Nat.le_refl _
      · have := ih (by omega); rw [cn]; omega
  have h1 := cn_yes hx
  have h2 := cn_yes hy
  rcases Nat.lt_trichotomy x y with h | h | h
  · have := mono (x + 1) y (by omega); omega
  · exact h
  · have := mono (y + 1) x (by omega); omega
/-- The roots are not more than the places where strands still come in. -/
theorem roots_le {d : Dg} (h : arcsB d = true) {k : Nat} (hk : k < d.crs.length) : cn (rtB2 (smC d k) (remL d k)) (2 * d.crs.length + 1) ≤ 2 * (d.crs.length - 1) := by
  have V := val_of h
  obtain ⟨np, nq, hne⟩ := at_ne h hk
  rw [cn_filter]
  have hb := inC_blk (smD d k) false (d.crs.length - 1)
  rw [← hb, List.countP_eq_length_filter]
  refine Nat.le_trans (nodup_le ((List.nodup_range).filter _) (ys := ((List.range (4 * (d.crs.length - 1))).filter fun j => entryB (smD d k) (j / 4) (j % 4) != false).map fun j => cK d k (arcAt d (skp k (j / 4)) (j % 4)).toNat) fun x hx => ?_) (Nat.le_of_eq (List.length_map ..))
  obtain ⟨hx1, hx2⟩ := List.mem_filter.1 hx
  have hx1' : x < 2 * d.crs.length + 1 := by simpa using hx1
  unfold rtB2 at hx2
  rw [Bool.and_eq_true, Bool.and_eq_true] at hx2
  obtain ⟨v, hv, t, ht, hxe⟩ := lfL_iff.1 hx2.2.2
  obtain ⟨hr1, hr2⟩ := remL_ga d hk
  obtain ⟨i0, hi0, rfl⟩ := List.mem_iff_getElem.1 hv
  have hi0' : i0 < d.crs.length - 1 := by omega
  have ev : (remL d k)[i0] = ga d.crs (skp k i0) := by rw [← hr2 i0 hi0', ga_eq hi0]
  rw [ev] at hxe
  change (x : Int) = ga (smC d k) (arcAt d (skp k i0) t).toNat at hxe
  obtain ⟨s1, s2⟩ := skp_lt hi0' (k := k)
  have ha := V.r _ t s1 ht
  rw [cK_ga h hk (by omega)] at hxe
  have hxe' : x = cK d k (arcAt d (skp k i0) t).toNat := by omega
  -- a place where a strand comes in, of the same class
  have key : ∀ i s, i < d.crs.length - 1 → s < 4 → entryB d (skp k i) s = true → cK d k (arcAt d (skp k i) s).toNat = x → x ∈ ((List.range (4 * (d.crs.length - 1))).filter fun j => entryB (smD d k) (j / 4) (j % 4) != false).map fun j => cK d k (arcAt d (skp k (j / 4)) (j % 4)).toNat := by
    intro i s hi hs he hc
    refine List.mem_map.2 ⟨4 * i + s, List.mem_filter.2 ⟨by simp; omega, ?_⟩, ?_⟩
    · rw [show (4 * i + s) / 4 = i by omega, show (4 * i + s) % 4 = s by omega, (smD_at d hk hi hs).2, he]; rfl
    · simp only [show (4 * i + s) / 4 = i by omega, show (4 * i + s) % 4 = s by omega]; exact hc
  cases hE : entryB d (skp k i0) t with
  | true => exact key i0 t hi0' ht hE hxe'.symm
  | false =>
    obtain ⟨n1, n2⟩ := (hne _ t s1 ht s2).2 hE
    obtain ⟨b, hb1, hb2, hb3, hb4⟩ := m2_other (p := sq1 d k) (q := sp1 d k) (r := sq2 d k) (s := sp2 d k) (a := (arcAt d (skp k i0) t).toNat) nq np (by omega) (by omega)
    rw [← m2_sym, ← m2_sym (sp1 d k)] at hb4
    obtain ⟨⟨p1, p2⟩, ⟨q1, q2⟩, ⟨r1, r2⟩, ⟨u1, u2⟩⟩ := sm_bd h hk
    have hb0 : 1 ≤ b ∧ b ≤ 2 * d.crs.length := by omega
    obtain ⟨e1, e2, _, e4, e5⟩ := endOf_lt h hb0.1 hb0.2 false
    have hkk : (endOf d (b : Int) false).1 ≠ k := fun e => by
      rw [e] at e4 e5
      rcases at_in h hk e2 (by rw [e5]; rfl) with h9 | h9 <;> omega
    obtain ⟨j, hj, ej⟩ := skp_sur e1 hk hkk
    refine key j (endOf d (b : Int) false).2 hj e2 (by rw [ej, e5]; rfl) ?_
    rw [ej, e4, Int.toNat_natCast, hxe']
    exact hb4
theorem smD_arcs {d : Dg} (h : arcsB d = true) {k : Nat} (hk : k < d.crs.length) : arcsB (smD d k) = true := by
  have V := val_of h
  obtain ⟨np, nq, hne⟩ := at_ne h hk
  have hl := smD_len d hk
  have mono : ∀ (P : Nat → Bool) a b, a ≤ b → cn P a ≤ cn P b := by
    intro P a b hab
    induction b with
    | zero => obtain rfl : a = 0 := by omega
              exact Nat.le_refl _
    | succ b ih =>
      by_cases h : a = b + 1
      · rw [h]; exact Nat.le_refl _
      · have := ih (by omega); rw [cn]; omega
  refine arcsB_val ⟨fun i s hi hs => ?_, fun i s i' s' hi hs hi' hs' he ha => ?_⟩
  · rw [hl] at hi ⊢
    rw [(smD_at d hk hi hs).1]
    obtain ⟨r1, r2⟩ := rem_rt h hk hi hs
    rw [r2]
    have h1 := cn_yes r1
    obtain ⟨s1, s2⟩ := skp_lt hi (k := k)
    have har := V.r _ s s1 hs
    have hx : cK d k (arcAt d (skp k i) s).toNat < 2 * d.crs.length + 1 := by
      have hc := cK_ga h hk (x := (arcAt d (skp k i) s).toNat) (by omega)
      obtain ⟨o1, o2, o3⟩ := (smN_ok h hk 2 (Nat.le_refl _)).2 (arcAt d (skp k i) s).toNat (by omega)
      have e : smN d k 2 = smC d k := rfl
      rw [e, hc] at o2
      omega
    have h2 := mono (rtB2 (smC d k) (remL d k)) (cK d k (arcAt d (skp k i) s).toNat + 1) (2 * d.crs.length + 1) (by omega)
    have h3 := roots_le h hk
    omega
  · rw [hl] at hi hi'
    obtain ⟨a1, a2⟩ := smD_at d hk hi hs
    obtain ⟨b1, b2⟩ := smD_at d hk hi' hs'
    rw [a1, b1] at ha
    rw [a2, b2] at he
    obtain ⟨r1, r2⟩ := rem_rt h hk hi hs
    obtain ⟨t1, t2⟩ := rem_rt h hk hi' hs'
    rw [r2, t2] at ha
    have hc := cn_str r1 t1 (by omega)
    obtain ⟨s1, s2⟩ := skp_lt hi (k := k)
    obtain ⟨u1, u2⟩ := skp_lt hi' (k := k)
    have hr1 := V.r _ s s1 hs
    have hr2 := V.r _ s' u1 hs'
    have hEq : (arcAt d (skp k i) s).toNat = (arcAt d (skp k i') s').toNat := by
      cases hE : entryB d (skp k i) s with
      | true =>
        obtain ⟨x1, x2⟩ := (hne _ s s1 hs s2).1 hE
        obtain ⟨y1, y2⟩ := (hne _ s' u1 hs' u2).1 (by rw [← he]; exact hE)
        exact m2_inj np nq (by omega) (by omega) (by omega) (by omega) hc
      | false =>
        obtain ⟨x1, x2⟩ := (hne _ s s1 hs s2).2 hE
        obtain ⟨y1, y2⟩ := (hne _ s' u1 hs' u2).2 (by rw [← he]; exact hE)
        unfold cK at hc
        rw [m2_sym, m2_sym (sp1 d k)] at hc
        exact m2_inj nq np (by omega) (by omega) (by omega) (by omega) hc
    obtain ⟨g1, g2⟩ := V.u _ s _ s' s1 hs u1 hs' he (by omega)
    exact ⟨skp_inj g1, g2⟩
theorem smD_loops {d : Dg} (h : arcsB d = true) {k : Nat} (hk : k < d.crs.length) : d.loops ≤ (smD d k).loops ∧ (smD d k).loops ≤ d.loops + 2 * d.crs.length ∧ (d.crs.length = 1 → d.loops + 1 ≤ (smD d k).loops) := by
  have e : (smD d k).loops = d.loops + (cn (loB2 (smC d k) (remL d k)) (2 * d.crs.length + 1) : Int) := rfl
  have h0 : loB2 (smC d k) (remL d k) 0 = false := rfl
  have hle : ∀ m, cn (loB2 (smC d k) (remL d k)) (m + 1) ≤ m := by
    intro m
    induction m with
    | zero => rw [cn_no h0]; exact Nat.le_refl _
    | succ m ih => rw [cn]; split <;> omega
  refine ⟨by omega, by have := hle (2 * d.crs.length); omega, fun hn => ?_⟩
  have h1 : loB2 (smC d k) (remL d k) 1 = true := by
    obtain ⟨r1, _⟩ := remL_ga d hk
    have hr : remL d k = [] := List.eq_nil_of_length_eq_zero (by omega)
    have hp := sm_pos h hk (x := 1) (Nat.le_refl _) (by omega)
    obtain ⟨o1, o2, o3⟩ := (smN_ok h hk 2 (Nat.le_refl _)).2 1 (by omega)
    have e : smN d k 2 = smC d k := rfl
    rw [e] at o2
    unfold loB2
    rw [hr]
    rw [decide_eq_true (show ga (smC d k) 1 = ((1 : Nat) : Int) by omega)]
    rfl
  have h2 : cn (loB2 (smC d k) (remL d k)) 2 = cn (loB2 (smC d k) (remL d k)) 1 + 1 := cn_yes h1
  have h3 : cn (loB2 (smC d k) (remL d k)) (2 * d.crs.length + 1) = cn (loB2 (smC d k) (remL d k)) 2 + (if loB2 (smC d k) (remL d k) 2 = true then 1 else 0) := by rw [hn]; rfl
  omega
/-- Where the arcs come in, in the order of a walk along all strands. -/
def visV (d : Dg) : List (Nat × Nat) := (strandsL d).flatten.map fun a => endOf d a false
/-- The first crossing to which a walk comes below first. -/
def fbF : List Nat → List (Nat × Nat) → Int
  | _, [] => -1
  | seen, p :: r => if p.1 ∉ seen ∧ p.2 = 0 then (p.1 : Int) else fbF (p.1 :: seen) r
def bdF : List Nat → List (Nat × Nat) → Nat
  | _, [] => 0
  | seen, p :: r => (if p.1 ∉ seen ∧ p.2 = 0 then 1 else 0) + bdF (p.1 :: seen) r
def trK (d : Dg) (k : Nat) (p : Nat × Nat) : Nat × Nat := (p.1, rhoI d k p.1 p.2)
theorem visV_chD {d : Dg} (h : arcsB d = true) {k : Nat} (hk : k < d.crs.length) : visV (chD d k) = (visV d).map (trK d k) := by
  unfold visV
  rw [chD_strands h hk, List.map_map]
  refine List.map_congr_left fun y hy => ?_
  obtain ⟨l, hl, hy⟩ := List.mem_flatten.1 hy
  obtain ⟨i, hi, rfl⟩ := List.mem_iff_getElem.1 hl
  have := strands_rng h hi y (by rw [ga_eq hi]; exact hy)
  obtain ⟨n, rfl⟩ : ∃ n : Nat, y = (n : Int) := ⟨y.toNat, by omega⟩
  exact chD_end h hk (by omega) (by omega)
theorem bd_seen (d : Dg) (k : Nat) : ∀ (V : List (Nat × Nat)) (seen : List Nat), k ∈ seen → bdF seen (V.map (trK d k)) = bdF seen V := by
  intro V
  induction V with
  | nil => intro _ _; rfl
  | cons p r ih =>
    intro seen hk
    rw [List.map_cons, bdF, bdF]
    have h1 : (trK d k p).1 = p.1 := rfl
    rw [h1, ih _ (List.mem_cons_of_mem _ hk)]
    by_cases e : p.1 = k
    · rw [if_neg (fun h => h.1 (by rw [e]; exact hk)), if_neg (fun h => h.1 (by rw [e]; exact hk))]
    · have h2 : (trK d k p).2 = p.2 := by unfold trK rhoI; simp only; rw [if_neg e]
      rw [h2]
theorem bd_drop {d : Dg} {k : Nat} (hin : ∀ s, s = 0 → rhoI d k k s ≠ 0) : ∀ (V : List (Nat × Nat)) (seen : List Nat), k ∉ seen → fbF seen V = (k : Int) → bdF seen (V.map (trK d k)) + 1 = bdF seen V := by
  intro V
  induction V with
  | nil => intro _ _ h; unfold fbF at h; omega
  | cons p r ih =>
    intro seen hk hf
    rw [List.map_cons, bdF, bdF]
    have h1 : (trK d k p).1 = p.1 := rfl
    rw [h1]
    rw [fbF] at hf
    by_cases hc : p.1 ∉ seen ∧ p.2 = 0
    · rw [if_pos hc] at hf
      have e : p.1 = k := by omega
      have h2 : (trK d k p).2 ≠ 0 := by
        show rhoI d k p.1 p.2 ≠ 0
        rw [e]; exact hin _ hc.2
      rw [if_pos hc, if_neg (fun h => h2 h.2), bd_seen d k r _ (by rw [e]; exact List.mem_cons_self ..)]
      omega
    · rw [if_neg hc] at hf
      have e : p.1 ≠ k := by
        intro e
        have : ∀ (W : List (Nat × Nat)) (s : List Nat), k ∈ s → fbF s W ≠ (k : Int) := by
          intro W
          induction W with
          | nil => intro s _ h; unfold fbF at h; omega
          | cons q W ihW =>
            intro s hs h
            rw [fbF] at h
            by_cases hq : q.1 ∉ s ∧ q.2 = 0
            · rw [if_pos hq] at h
              have : q.1 = k := by omega
              exact hq.1 (by rw [this]; exact hs)
            · rw [if_neg hq] at h
              exact ihW _ (List.mem_cons_of_mem _ hs) h
        exact this r _ (by rw [e]; exact List.mem_cons_self ..) hf
      have h2 : (trK d k p).2 = p.2 := by unfold trK rhoI; simp only; rw [if_neg e]
      rw [h2, if_neg hc, ← ih _ (fun hm => by rcases List.mem_cons.1 hm with h | h; exact e h.symm; exact hk h) hf]
      omega
theorem bd_le (n : Nat) : ∀ (V : List (Nat × Nat)) (seen : List Nat), (∀ p ∈ V, p.1 < n) → bdF seen V ≤ ((List.range n).filter fun c => decide (c ∉ seen)).length := by
  intro V
  induction V with
  | nil => intro _ _; exact Nat.zero_le _
  | cons p r ih =>
    intro seen hV
    rw [bdF]
    have h1 := ih (p.1 :: seen) fun q hq => hV q (List.mem_cons_of_mem _ hq)
    have hsub : ∀ c, decide (c ∉ p.1 :: seen) = true → decide (c ∉ seen) = true := fun c hc => by
      rw [decide_eq_true_iff] at hc ⊢
      exact fun h => hc (List.mem_cons_of_mem _ h)
    by_cases hc : p.1 ∉ seen ∧ p.2 = 0
    · rw [if_pos hc]
      have hlt : ((List.range n).filter fun c => decide (c ∉ p.1 :: seen)).length + 1 ≤ ((List.range n).filter fun c => decide (c ∉ seen)).length := by
        have hm : p.1 ∈ (List.range n).filter fun c => decide (c ∉ seen) := List.mem_filter.2 ⟨by have := hV p (List.mem_cons_self ..); simpa using this, by rw [decide_eq_true_iff]; exact hc.1⟩
        have hn : (p.1 :: (List.range n).filter fun c => decide (c ∉ p.1 :: seen)).Nodup := by
          rw [List.nodup_cons]
          exact ⟨fun h => by have := (List.mem_filter.1 h).2; rw [decide_eq_true_iff] at this; exact this (List.mem_cons_self ..), (List.nodup_range).filter _⟩
        have := nodup_le hn (ys := (List.range n).filter fun c => decide (c ∉ seen)) fun y hy => by
          rcases List.mem_cons.1 hy with rfl | hy
          · exact hm
          · obtain ⟨h1, h2⟩ := List.mem_filter.1 hy
            exact List.mem_filter.2 ⟨h1, hsub _ h2⟩
        simpa using this
      omega
    · rw [if_neg hc, Nat.zero_add]
      refine Nat.le_trans h1 ?_
      exact nodup_le ((List.nodup_range).filter _) fun y hy => by
        obtain ⟨h1, h2⟩ := List.mem_filter.1 hy
        exact List.mem_filter.2 ⟨h1, hsub _ h2⟩
theorem visV_lt {d : Dg} (h : arcsB d = true) : ∀ p ∈ visV d, p.1 < d.crs.length := by
  intro p hp
  obtain ⟨y, hy, rfl⟩ := List.mem_map.1 hp
  obtain ⟨l, hl, hy⟩ := List.mem_flatten.1 hy
  obtain ⟨i, hi, rfl⟩ := List.mem_iff_getElem.1 hl
  have := strands_rng h hi y (by rw [ga_eq hi]; exact hy)
  obtain ⟨n, rfl⟩ : ∃ n : Nat, y = (n : Int) := ⟨y.toNat, by omega⟩
  exact (endOf_lt h (by omega) (by omega) false).1
theorem bd_top {d : Dg} (h : arcsB d = true) : bdF [] (visV d) ≤ d.crs.length := by
  have := bd_le d.crs.length (visV d) [] (visV_lt h)
  refine Nat.le_trans this (Nat.le_trans (List.length_filter_le _ _) (by simp))
def low (d : Dg) : Int := fbF [] (visV d)
theorem fb_rng : ∀ (V : List (Nat × Nat)) (seen : List Nat) (n : Nat), (∀ p ∈ V, p.1 < n) → fbF seen V = -1 ∨ (0 ≤ fbF seen V ∧ fbF seen V < (n : Int)) := by
  intro V
  induction V with
  | nil => intro _ _ _; exact .inl rfl
  | cons p r ih =>
    intro seen n hV
    rw [fbF]
    split
    · have := hV p (List.mem_cons_self ..); exact .inr ⟨by omega, by omega⟩
    · exact ih _ n fun q hq => hV q (List.mem_cons_of_mem _ hq)
theorem low_rng {d : Dg} (h : arcsB d = true) : low d = -1 ∨ (0 ≤ low d ∧ low d < (d.crs.length : Int)) := fb_rng _ _ _ (visV_lt h)
/-- A number that falls at each step of the tree. -/
def mu (d : Dg) : Nat := d.crs.length * d.crs.length + bdF [] (visV d)
theorem mu_ch {d : Dg} (h : arcsB d = true) {k : Nat} (hk : low d = (k : Int)) : mu (chD d k) + 1 = mu d ∧ k < d.crs.length := by
  have hk2 : k < d.crs.length := by have := low_rng h; omega
  refine ⟨?_, hk2⟩
  unfold mu
  rw [chD_len, visV_chD h hk2]
  have := bd_drop (d := d) (k := k) (fun s hs => by unfold rhoI; rw [if_pos rfl]; split <;> omega) (visV d) [] (by simp) hk
  omega
theorem mu_sm {d : Dg} (h : arcsB d = true) {k : Nat} (hk : low d = (k : Int)) : mu (smD d k) < mu d := by
  have hk2 : k < d.crs.length := by have := low_rng h; omega
  have hb := bd_top (smD_arcs h hk2)
  unfold mu
  rw [smD_len d hk2] at hb ⊢
  obtain ⟨m, hm⟩ : ∃ m, d.crs.length = m + 1 := ⟨d.crs.length - 1, by omega⟩
  rw [hm] at hb ⊢
  have e1 : m + 1 - 1 = m := by omega
  rw [e1] at hb ⊢
  have e2 : (m + 1) * (m + 1) = m * m + 2 * m + 1 := by rw [Nat.add_mul, Nat.mul_add]; omega
  omega
end Go.Proofs.YthppkofceancjaaGreat
namespace Go.Proofs.YthppkofceancjaaGreat
open Go.ChangeShapes Go.WideShapes Go.ChangeAt Go.RowKit
structure Pw where
  x : Int
  z : Int
instance : Inhabited Pw := ⟨⟨0, 0⟩⟩
instance : DecidableEq Pw := fun a b => decidable_of_iff (a.x = b.x ∧ a.z = b.z) ⟨fun h => by cases a; cases b; simp at h; simp [h], fun h => by rw [h]; exact ⟨rfl, rfl⟩⟩
def enc (k : Pw) : Int := 1000 * k.x + k.z
def PB (B : Nat) (k : Pw) : Prop := -(B : Int) ≤ k.x ∧ k.x ≤ B ∧ -(B : Int) ≤ k.z ∧ k.z ≤ B
theorem PB.mono {B C : Nat} {k : Pw} (h : PB B k) (hC : B ≤ C) : PB C k := by unfold PB at *; omega
theorem enc_inj {B : Nat} (hB : B ≤ 400) {a b : Pw} (ha : PB B a) (hb : PB B b) (e : enc a = enc b) : a = b := by
  obtain ⟨ax, az⟩ := a
  obtain ⟨bx, bz⟩ := b
  unfold enc PB at *
  simp only at *
  have h1 : ax = bx := by omega
  have h2 : az = bz := by omega
  rw [h1, h2]
theorem enc_lt {B : Nat} (hB : B ≤ 400) {a b : Pw} (ha : PB B a) (hb : PB B b) : enc a < enc b ↔ (a.x < b.x ∨ a.x = b.x ∧ a.z < b.z) := by
  unfold enc PB at *
  omega
theorem enc_bd {B : Nat} {a : Pw} (ha : PB B a) : -((1001 * B : Nat) : Int) ≤ enc a ∧ enc a ≤ ((1001 * B : Nat) : Int) := by unfold enc PB at *; omega
def pAdd (a b : Pw) : Pw := ⟨a.x + b.x, a.z + b.z⟩
theorem enc_add (a b : Pw) : enc (pAdd a b) = enc a + enc b := by unfold enc pAdd; simp only; omega
def eE (es : List (Pw × Int)) : List (Int × Int) := es.map fun p => (enc p.1, p.2)
def EntP (es : List (Pw × Int)) (B : Nat) : Prop := (es.map Prod.fst).Nodup ∧ ∀ q ∈ es, PB B q.1 ∧ wr q.2 = q.2
theorem EntP.nil_ (B : Nat) : EntP [] B := ⟨by simp, by simp⟩
theorem EntP.mono {es : List (Pw × Int)} {B C : Nat} (h : EntP es B) (k : B ≤ C) : EntP es C := ⟨h.1, fun q hq => ⟨(h.2 q hq).1.mono k, (h.2 q hq).2⟩⟩
theorem mg_enc {B : Nat} (hB : B ≤ 400) {k : Pw} (hk : PB B k) : ∀ {es : List (Pw × Int)}, (∀ q ∈ es, PB B q.1) → mg (enc k) (eE es) = mg k es
  | [], _ => rfl
  | p :: r, h => by
    show (if enc k = enc p.1 then some p.2 else mg (enc k) (eE r)) = if k = p.1 then some p.2 else mg k r
    have ih := mg_enc hB hk (es := r) fun q hq => h q (List.mem_cons_of_mem _ hq)
    by_cases e : k = p.1
    · rw [if_pos e, if_pos (by rw [e])]
    · rw [if_neg e, if_neg (fun h2 => e (enc_inj hB hk (h p (List.mem_cons_self ..)) h2)), ih]
theorem mp_enc {B : Nat} (hB : B ≤ 400) {k : Pw} (hk : PB B k) (v : Int) : ∀ {es : List (Pw × Int)}, (∀ q ∈ es, PB B q.1) → eE (mp k v es) = mp (enc k) v (eE es)
  | [], _ => rfl
  | p :: r, h => by
    have ih := mp_enc hB hk v (es := r) fun q hq => h q (List.mem_cons_of_mem _ hq)
    show eE (if k = p.1 then (k, v) :: r else p :: mp k v r) = if enc k = enc p.1 then (enc k, v) :: eE r else (enc p.1, p.2) :: mp (enc k) v (eE r)
    by_cases e : k = p.1
    · rw [if_pos e, if_pos (by rw [e])]; rfl
    · rw [if_neg e, if_neg (fun h2 => e (enc_inj hB hk (h p (List.mem_cons_self ..)) h2)), ← ih]; rfl
theorem mpP_mem {k : Pw} {v : Int} {es : List (Pw × Int)} {q : Pw × Int} (h : q ∈ mp k v es) : q = (k, v) ∨ q ∈ es := by
  induction es with
  | nil => simp [mp] at h; exact .inl h
  | cons p r ih =>
    rw [mp] at h
    split at h
    · rcases List.mem_cons.1 h with h | h
      · exact .inl h
      · exact .inr (List.mem_cons_of_mem _ h)
    · rcases List.mem_cons.1 h with h | h
      · exact .inr (by rw [h]; exact List.mem_cons_self ..)
      · rcases ih h with h | h
        · exact .inl h
        · exact .inr (List.mem_cons_of_mem _ h)
theorem mpP_keys (k : Pw) (v : Int) (es : List (Pw × Int)) : (mp k v es).map Prod.fst = if k ∈ es.map Prod.fst then es.map Prod.fst else es.map Prod.fst ++ [k] := by
  induction es with
  | nil => simp [mp]
  | cons p r ih =>
    rw [mp]
    by_cases e : k = p.1
    · rw [if_pos e, if_pos (by simp [e])]; simp [e]
    · rw [if_neg e, List.map_cons, ih]
      by_cases h : k ∈ r.map Prod.fst
      · rw [if_pos h, if_pos (by rw [List.map_cons]; exact List.mem_cons_of_mem _ h)]; rfl
      · rw [if_neg h, if_neg (by rw [List.map_cons, List.mem_cons]; exact fun h2 => h2.elim e h)]; rfl
theorem EntP.mp_ {es : List (Pw × Int)} {B : Nat} (h : EntP es B) {k : Pw} {v : Int} (hk : PB B k) (hv : wr v = v) : EntP (mp k v es) B := by
  refine ⟨?_, fun q hq => ?_⟩
  · rw [mpP_keys]
    split
    · exact h.1
    · rename_i hn
      rw [List.nodup_append]
      exact ⟨h.1, by simp, fun a ha b hb => by rw [List.mem_singleton] at hb; subst hb; exact fun e => hn (e ▸ ha)⟩
  · rcases mpP_mem hq with rfl | hq
    · exact ⟨hk, hv⟩
    · exact h.2 q hq
/-- The class. -/
def cE (es : List (Pw × Int)) : Pol := mk (eE es)
theorem cE_add {es : List (Pw × Int)} {B : Nat} (hB : B ≤ 400) (h : EntP es B) {k : Pw} (hk : PB B k) (c : Int) : cE (mp k (wr ((mg k es).getD 0 + c)) es) = cE es + Go.Proofs.YthppkofceancjaaGreat.mono (enc k) c := by
  unfold cE
  have hz := fun q hq => (h.2 q hq).1
  rw [mp_enc hB hk _ hz, ← mg_enc hB hk hz]
  exact mk_mp_add _ _ _
theorem EntP.ents {es : List (Pw × Int)} {B : Nat} (hB : B ≤ 400) (h : EntP es B) : Ents (eE es) (1001 * B) := by
  refine ⟨?_, fun q hq => ?_⟩
  · unfold eE
    rw [List.map_map]
    have : (Prod.fst ∘ fun p : Pw × Int => (enc p.1, p.2)) = enc ∘ Prod.fst := rfl
    rw [this, ← List.map_map]
    have key : ∀ l : List Pw, l.Nodup → (∀ x ∈ l, PB B x) → (l.map enc).Nodup := by
      intro l
      induction l with
      | nil => intro _ _; exact List.nodup_nil
      | cons x l ih =>
        intro hn hb
        rw [List.nodup_cons] at hn
        rw [List.map_cons, List.nodup_cons]
        refine ⟨fun hm => ?_, ih hn.2 fun y hy => hb y (List.mem_cons_of_mem _ hy)⟩
        obtain ⟨y, hy, e⟩ := List.mem_map.1 hm
        have := enc_inj hB (hb y (List.mem_cons_of_mem _ hy)) (hb x (List.mem_cons_self ..)) e
        exact hn.1 (this ▸ hy)
    refine key _ h.1 fun x hx => ?_
    obtain ⟨q, hq, rfl⟩ := List.mem_map.1 hx
    exact (h.2 q hq).1
  · obtain ⟨p, hp, rfl⟩ := List.mem_map.1 hq
    exact ⟨enc_bd (h.2 p hp).1, (h.2 p hp).2⟩
structure T2 where
  x : Int
  z : Int
  c : Int
instance : Inhabited T2 := ⟨⟨0, 0, 0⟩⟩
def e2 (t : T2) : Tm := ⟨1000 * t.x + t.z, t.c⟩
def put2 : List T2 → Int → Int → Int → List T2
  | [], x, z, c => if c = 0 then [] else [⟨x, z, c⟩]
  | t :: l, x, z, c => if c = 0 then t :: l else if t.x < x ∨ t.x = x ∧ t.z < z then t :: put2 l x z c else if t.x = x ∧ t.z = z then (if wr (t.c + c) ≠ 0 then ⟨x, z, wr (t.c + c)⟩ :: l else l) else ⟨x, z, c⟩ :: t :: l
def B2 (B : Nat) (l : List T2) : Prop := ∀ t ∈ l, PB B ⟨t.x, t.z⟩
theorem B2.mono {B C : Nat} {l : List T2} (h : B2 B l) (k : B ≤ C) : B2 C l := fun t ht => (h t ht).mono k
theorem put2_mem {l : List T2} {x z c : Int} {u : T2} (hu : u ∈ put2 l x z c) : (u.x = x ∧ u.z = z) ∨ u ∈ l := by
  induction l with
  | nil =>
    rw [put2] at hu
    split at hu
    · cases hu
    · rw [List.mem_singleton] at hu; rw [hu]; exact .inl ⟨rfl, rfl⟩
  | cons t l ih =>
    rw [put2] at hu
    split at hu
    · exact .inr hu
    · split at hu
      · rcases List.mem_cons.1 hu with h | h
        · exact .inr (by rw [h]; exact List.mem_cons_self ..)
        · exact (ih h).imp id (List.mem_cons_of_mem _)
      · split at hu
        · split at hu
          · rcases List.mem_cons.1 hu with h | h
            · rw [h]; exact .inl ⟨rfl, rfl⟩
            · exact .inr (List.mem_cons_of_mem _ h)
          · exact .inr (List.mem_cons_of_mem _ hu)
        · rcases List.mem_cons.1 hu with h | h
          · rw [h]; exact .inl ⟨rfl, rfl⟩
          · exact .inr h
theorem put2_bd {B : Nat} {l : List T2} (h : B2 B l) {x z c : Int} (hk : PB B ⟨x, z⟩) : B2 B (put2 l x z c) := fun t ht => by
  rcases put2_mem ht with ⟨e1, e2⟩ | h2
  · rw [e1, e2]; exact hk
  · exact h t h2
theorem put2_put {B : Nat} (hB : B ≤ 400) {x z c : Int} (hk : PB B ⟨x, z⟩) : ∀ {l : List T2}, B2 B l → (put2 l x z c).map e2 = put (l.map e2) (1000 * x + z) c
  | [], _ => by
    rw [put2, List.map_nil, put]
    split <;> rfl
  | t :: l, h => by
    have ht := h t (List.mem_cons_self ..)
    have ih := put2_put hB hk (c := c) (l := l) fun u hu => h u (List.mem_cons_of_mem _ hu)
    have e1 : (e2 t).e = 1000 * t.x + t.z := rfl
    have e3 : (e2 t).c = t.c := rfl
    have l1 : (1000 * t.x + t.z < 1000 * x + z) ↔ (t.x < x ∨ t.x = x ∧ t.z < z) := enc_lt hB ht hk
    have l2 : (1000 * t.x + t.z = 1000 * x + z) ↔ (t.x = x ∧ t.z = z) := by
      constructor
      · intro e
        have := enc_inj hB ht hk e
        injection this with a b
        exact ⟨a, b⟩
      · rintro ⟨a, b⟩; rw [a, b]
    rw [put2, List.map_cons, put]
    by_cases hc : c = 0
    · rw [if_pos hc, if_pos hc]; rfl
    · rw [if_neg hc, if_neg hc]
      by_cases h1 : t.x < x ∨ t.x = x ∧ t.z < z
      · have h1' : (e2 t).e < 1000 * x + z := by rw [e1]; exact l1.2 h1
        rw [if_pos h1, if_pos h1', List.map_cons, ih]
      · have h1' : ¬ (e2 t).e < 1000 * x + z := by rw [e1]; exact fun h => h1 (l1.1 h)
        rw [if_neg h1, if_neg h1']
        by_cases h2 : t.x = x ∧ t.z = z
        · have h2' : (e2 t).e = 1000 * x + z := by rw [e1]; exact l2.2 h2
          rw [if_pos h2, if_pos h2', e3]
          by_cases h3 : wr (t.c + c) = 0
          · rw [if_neg (fun h => h h3), if_pos h3]
          · rw [if_pos h3, if_neg h3]; rfl
        · have h2' : ¬ (e2 t).e = 1000 * x + z := by rw [e1]; exact fun h => h2 (l2.1 h)
          rw [if_neg h2, if_neg h2']; rfl
/-- The class of such a list. -/
def cT (l : List T2) : Pol := mk (pr (l.map e2))
def Can2 (l : List T2) : Prop := Can (l.map e2)
theorem cT_put {B : Nat} (hB : B ≤ 400) {l : List T2} (h : B2 B l) {x z c : Int} (hk : PB B ⟨x, z⟩) : cT (put2 l x z c) = cT l + Go.Proofs.YthppkofceancjaaGreat.mono (1000 * x + z) c := by
  unfold cT; rw [put2_put hB hk h, mk_put]
theorem wr_small {x : Int} (h : -1000000 ≤ x ∧ x ≤ 1000000) : wr x = x := by unfold wr; rw [IntKind.wrap_i64]; omega
theorem Can2.put {B : Nat} (hB : B ≤ 400) {l : List T2} (hc : Can2 l) (h : B2 B l) {x z c : Int} (hk : PB B ⟨x, z⟩) (hw : wr c = c) : Can2 (put2 l x z c) := by
  unfold Can2; rw [put2_put hB hk h]
  exact put_can hc (wr_small (by unfold PB at hk; simp only at hk; omega)) hw
theorem e2_ext {B : Nat} (hB : B ≤ 400) : ∀ {a b : List T2}, B2 B a → B2 B b → a.map e2 = b.map e2 → a = b
  | [], [], _, _, _ => rfl
  | [], _ :: _, _, _, h => by cases h
  | _ :: _, [], _, _, h => by cases h
  | s :: a, t :: b, ha, hb, h => by
    rw [List.map_cons, List.map_cons] at h
    injection h with h1 h2
    have ih := e2_ext hB (a := a) (b := b) (fun u hu => ha u (List.mem_cons_of_mem _ hu)) (fun u hu => hb u (List.mem_cons_of_mem _ hu)) h2
    have hs := ha s (List.mem_cons_self ..)
    have ht := hb t (List.mem_cons_self ..)
    have e1 : 1000 * s.x + s.z = 1000 * t.x + t.z := congrArg Tm.e h1
    have e3 : s.c = t.c := congrArg Tm.c h1
    have := enc_inj hB hs ht e1
    injection this with g1 g2
    obtain ⟨sx, sz, sc⟩ := s
    obtain ⟨tx, tz, tc⟩ := t
    simp only at g1 g2 e3
    rw [g1, g2, e3, ih]
/-- A list's terms, moved, put behind one another. -/
def addL (out : List T2) (dx dz s : Int) : List T2 → List T2
  | [] => out
  | t :: l => addL (put2 out (t.x + dx) (t.z + dz) (wr (s * t.c))) dx dz s l
theorem addL_snoc (out : List T2) (dx dz s : Int) (l : List T2) (t : T2) : addL out dx dz s (l ++ [t]) = put2 (addL out dx dz s l) (t.x + dx) (t.z + dz) (wr (s * t.c)) := by
  induction l generalizing out with
  | nil => rfl
  | cons u l ih => rw [List.cons_append, addL, addL, ih]
theorem addL_spec {B : Nat} (hB : B ≤ 400) {dx dz s : Int} : ∀ {l : List T2} {out : List T2}, B2 B out → Can2 out → (∀ t ∈ l, PB B ⟨t.x + dx, t.z + dz⟩) → B2 B (addL out dx dz s l) ∧ Can2 (addL out dx dz s l) ∧ cT (addL out dx dz s l) = cT out + cT l * Go.Proofs.YthppkofceancjaaGreat.mono (1000 * dx + dz) s
  | [], out, h1, h2, _ => ⟨h1, h2, by show cT out = cT out + Pol.o * _; rw [Pol.zero_mul, Pol.add_zero]⟩
  | t :: l, out, h1, h2, h3 => by
    have ht := h3 t (List.mem_cons_self ..)
    obtain ⟨g1, g2, g3⟩ := addL_spec hB (dx := dx) (dz := dz) (s := s) (l := l) (put2_bd h1 (c := wr (s * t.c)) ht) (Can2.put hB h2 h1 ht (wr_idem _)) fun u hu => h3 u (List.mem_cons_of_mem _ hu)
    refine ⟨g1, g2, ?_⟩
    rw [addL, g3, cT_put hB h1 ht]
    have e : cT (t :: l) = Go.Proofs.YthppkofceancjaaGreat.mono (1000 * t.x + t.z) t.c + cT l := rfl
    rw [e, Pol.add_mul, mono_mul, Pol.add_assoc]
    congr 2
    exact mono_congr (by congr 1; omega) (by rw [md_wr, Int.mul_comm])
/-- Rings without crossings. -/
def ringL : Nat → List T2
  | 0 => [⟨0, 0, 1⟩]
  | m + 1 => ringS [] (ringL m)
where ringS (out : List T2) : List T2 → List T2
  | [] => out
  | t :: l => ringS (put2 (put2 out (t.x + 1) (t.z - 1) t.c) (t.x - 1) (t.z - 1) (wr (-t.c))) l
theorem ringS_snoc (out : List T2) (l : List T2) (t : T2) : ringL.ringS out (l ++ [t]) = put2 (put2 (ringL.ringS out l) (t.x + 1) (t.z - 1) t.c) (t.x - 1) (t.z - 1) (wr (-t.c)) := by
  induction l generalizing out with
  | nil => rfl
  | cons u l ih => rw [List.cons_append, ringL.ringS, ringL.ringS, ih]
def ring1 : Pol := Go.Proofs.YthppkofceancjaaGreat.mono 999 1 + Go.Proofs.YthppkofceancjaaGreat.mono (-1001) (-1)
theorem ringS_spec {B : Nat} (hB : B ≤ 400) : ∀ {l : List T2} {out : List T2}, B2 B out → Can2 out → (∀ t ∈ l, PB B ⟨t.x + 1, t.z - 1⟩ ∧ PB B ⟨t.x - 1, t.z - 1⟩ ∧ wr t.c = t.c) → B2 B (ringL.ringS out l) ∧ Can2 (ringL.ringS out l) ∧ cT (ringL.ringS out l) = cT out + cT l * ring1
  | [], out, h1, h2, _ => ⟨h1, h2, by show cT out = cT out + Pol.o * _; rw [Pol.zero_mul, Pol.add_zero]⟩
  | t :: l, out, h1, h2, h3 => by
    obtain ⟨p1, p2, p3⟩ := h3 t (List.mem_cons_self ..)
    have b1 := put2_bd h1 (c := t.c) p1
    have c1 := Can2.put hB h2 h1 p1 p3
    obtain ⟨g1, g2, g3⟩ := ringS_spec hB (l := l) (put2_bd b1 (c := wr (-t.c)) p2) (Can2.put hB c1 b1 p2 (wr_idem _)) fun u hu => h3 u (List.mem_cons_of_mem _ hu)
    refine ⟨g1, g2, ?_⟩
    rw [ringL.ringS, g3, cT_put hB b1 p2, cT_put hB h1 p1]
    have e : cT (t :: l) = Go.Proofs.YthppkofceancjaaGreat.mono (1000 * t.x + t.z) t.c + cT l := rfl
    have k : Go.Proofs.YthppkofceancjaaGreat.mono (1000 * t.x + t.z) t.c * ring1 = Go.Proofs.YthppkofceancjaaGreat.mono (1000 * (t.x + 1) + (t.z - 1)) t.c + Go.Proofs.YthppkofceancjaaGreat.mono (1000 * (t.x - 1) + (t.z - 1)) (wr (-t.c)) := by
      unfold ring1
      rw [Pol.mul_add, mono_mul, mono_mul]
      congr 1
      · exact mono_congr (by congr 1; omega) (by rw [Int.mul_one])
      · exact mono_congr (by congr 1; omega) (by rw [md_wr]; congr 1; omega)
    rw [e, Pol.add_mul, k]
    simp only [Pol.add_assoc]
theorem ringL_spec : ∀ m, m ≤ 300 → B2 m (ringL m) ∧ Can2 (ringL m) ∧ (∀ t ∈ ringL m, wr t.c = t.c)
  | 0, _ => by
    refine ⟨fun t ht => ?_, ?_, fun t ht => ?_⟩
    · have : t = ⟨0, 0, 1⟩ := by simpa [ringL] using ht
      rw [this]; unfold PB; simp
    · show Can [⟨1000 * 0 + 0, 1⟩]
      refine ⟨by simp, fun t ht => ?_⟩
      rw [List.mem_singleton] at ht
      rw [ht]; exact ⟨by decide, by decide, by decide⟩
    · have : t = ⟨0, 0, 1⟩ := by simpa [ringL] using ht
      rw [this]; decide
  | m + 1, h => by
    obtain ⟨h1, h2, h3⟩ := ringL_spec m (by omega)
    obtain ⟨g1, g2, _⟩ := ringS_spec (B := m + 1) (by omega) (l := ringL m) (out := []) (fun t ht => by cases ht) Can.nil_ fun t ht => by
      have := h1 t ht
      unfold PB at *
      simp only at *
      exact ⟨by omega, by omega, h3 t ht⟩
    exact ⟨g1, g2, fun t ht => (g2.2 (e2 t) (List.mem_map.2 ⟨t, ht, rfl⟩)).2.1⟩
theorem ringL_cT (m : Nat) (h : m + 1 ≤ 300) : cT (ringL (m + 1)) = cT (ringL m) * ring1 := by
  obtain ⟨h1, h2, h3⟩ := ringL_spec m (by omega)
  have := (ringS_spec (B := m + 1) (by omega) (l := ringL m) (out := []) (fun t ht => by cases ht) Can.nil_ fun t ht => by
      have := h1 t ht
      unfold PB at *
      simp only at *
      exact ⟨by omega, by omega, h3 t ht⟩).2.2
  show cT (ringL.ringS [] (ringL m)) = _
  rw [this]
  show Pol.o + _ = _
  rw [Pol.zero_add]
/-- What holds of each diagram of the tree. -/
structure Jd (d : Dg) : Prop where
  ab : arcsB d = true
  n : d.crs.length ≤ 8
  l0 : 0 ≤ d.loops
  nl : 1 ≤ (d.crs.length : Int) + d.loops
  lb : d.loops + (d.crs.length * (d.crs.length + 1) : Nat) ≤ 88
theorem Jd.ch {d : Dg} (h : Jd d) {k : Nat} (hk : k < d.crs.length) : Jd (chD d k) := by
  have e := chD_len d k
  exact ⟨chD_arcs h.ab hk, by rw [e]; exact h.n, h.l0, by rw [e]; exact h.nl, by rw [e]; exact h.lb⟩
theorem Jd.sm {d : Dg} (h : Jd d) {k : Nat} (hk : k < d.crs.length) : Jd (smD d k) := by
  have e := smD_len d hk
  obtain ⟨l1, l2, l3⟩ := smD_loops h.ab hk
  have h0 := h.l0
  have hn := h.nl
  refine ⟨smD_arcs h.ab hk, by rw [e]; have := h.n; omega, by omega, ?_, ?_⟩
  · rw [e]
    by_cases h1 : d.crs.length = 1
    · have := l3 h1; omega
    · omega
  · rw [e]
    have hb := h.lb
    obtain ⟨m, hm⟩ : ∃ m, d.crs.length = m + 1 := ⟨d.crs.length - 1, by omega⟩
    rw [hm] at hb l2 ⊢
    have e1 : m + 1 - 1 = m := by omega
    rw [e1]
    have e2 : (m + 1) * (m + 1 + 1) = m * (m + 1) + 2 * (m + 1) := by rw [Nat.mul_comm]; exact Nat.add_mul m 2 (m + 1)
    rw [e2] at hb
    omega
def rgsN (d : Dg) : Nat := (strandsL d).length + d.loops.toNat - 1
/-- The document's polynomial, down to a depth. -/
def homL : Nat → Dg → List T2
  | 0, _ => []
  | f + 1, d => if low d < 0 then ringL (rgsN d)
    else if (ga d.crs (low d).toNat).plus = true then addL (addL [] (-2) 0 1 (homL f (chD d (low d).toNat))) (-1) 1 1 (homL f (smD d (low d).toNat))
    else addL (addL [] 2 0 1 (homL f (chD d (low d).toNat))) 1 1 (-1) (homL f (smD d (low d).toNat))
def bE (d : Dg) : Nat := 2 * mu d + 110
theorem mu_le {d : Dg} (h : Jd d) : mu d ≤ 72 := by
  unfold mu
  have h1 := bd_top h.ab
  have h2 := h.n
  have h3 : d.crs.length * d.crs.length ≤ 8 * 8 := Nat.mul_le_mul h2 h2
  omega
theorem strands_le (d : Dg) : ∀ A, ((ringsF (nextN d) (2 * d.crs.length + 1) A).2).length ≤ A := by
  intro A
  induction A with
  | zero => exact Nat.le_refl _
  | succ A ih =>
    unfold ringsF
    dsimp only
    split
    · omega
    · rw [List.length_append, List.length_singleton]; omega
theorem rgsN_le {d : Dg} (h : Jd d) : rgsN d ≤ 104 ∧ (strandsL d).length ≤ 2 * d.crs.length := by
  have h1 := strands_le d (2 * d.crs.length)
  have h2 := h.n
  have h3 := h.lb
  have h4 := h.l0
  unfold rgsN
  have e : (strandsL d).length ≤ 2 * d.crs.length := h1
  refine ⟨?_, e⟩
  have : d.loops ≤ 88 := by omega
  omega
theorem homL_spec : ∀ (f : Nat) (d : Dg), Jd d → mu d < f → B2 (bE d) (homL f d) ∧ Can2 (homL f d) := by
  intro f
  induction f with
  | zero => intro d _ h; omega
  | succ f ih =>
    intro d J hf
    rw [homL]
    by_cases hl : low d < 0
    · rw [if_pos hl]
      obtain ⟨h1, h2, _⟩ := ringL_spec (rgsN d) (by have := (rgsN_le J).1; omega)
      exact ⟨h1.mono (by have := (rgsN_le J).1; unfold bE; omega), h2⟩
    · rw [if_neg hl]
      have hlk : low d = ((low d).toNat : Int) := by omega
      obtain ⟨m1, hk⟩ := mu_ch J.ab hlk
      have m2 := mu_sm J.ab hlk
      obtain ⟨a1, a2⟩ := ih _ (J.ch hk) (by omega)
      obtain ⟨b1, b2⟩ := ih _ (J.sm hk) (by omega)
      have hm := mu_le J
      have step : ∀ dx s e, (dx = -2 ∨ dx = 2) → (e = -1 ∨ e = 1) → B2 (bE d) (addL (addL [] dx 0 1 (homL f (chD d (low d).toNat))) e 1 s (homL f (smD d (low d).toNat))) ∧ Can2 (addL (addL [] dx 0 1 (homL f (chD d (low d).toNat))) e 1 s (homL f (smD d (low d).toNat))) := by
        intro dx s e hdx he
        obtain ⟨c1, c2, _⟩ := addL_spec (B := bE d) (by unfold bE; omega) (dx := dx) (dz := 0) (s := 1) (l := homL f (chD d (low d).toNat)) (out := []) (fun t ht => by cases ht) Can.nil_ fun t ht => by
          have := a1 t ht
          unfold PB bE at *
          simp only at *
          omega
        obtain ⟨g1, g2, _⟩ := addL_spec (B := bE d) (by unfold bE; omega) (dx := e) (dz := 1) (s := s) (l := homL f (smD d (low d).toNat)) c1 c2 fun t ht => by
          have := b1 t ht
          unfold PB bE at *
          simp only at *
          omega
        exact ⟨g1, g2⟩
      split
      · exact step _ _ _ (.inl rfl) (.inl rfl)
      · exact step _ _ _ (.inr rfl) (.inr rfl)
theorem homL_step {f : Nat} {d : Dg} (J : Jd d) (hf : mu d < f + 1) (hl : ¬ low d < 0) : cT (homL (f + 1) d) = if (ga d.crs (low d).toNat).plus = true then cT (homL f (chD d (low d).toNat)) * Go.Proofs.YthppkofceancjaaGreat.mono (-2000) 1 + cT (homL f (smD d (low d).toNat)) * Go.Proofs.YthppkofceancjaaGreat.mono (-999) 1 else cT (homL f (chD d (low d).toNat)) * Go.Proofs.YthppkofceancjaaGreat.mono 2000 1 + cT (homL f (smD d (low d).toNat)) * Go.Proofs.YthppkofceancjaaGreat.mono 1001 (-1) := by
  have hlk : low d = ((low d).toNat : Int) := by omega
  obtain ⟨m1, hk⟩ := mu_ch J.ab hlk
  have m2 := mu_sm J.ab hlk
  obtain ⟨a1, a2⟩ := homL_spec f _ (J.ch hk) (by omega)
  obtain ⟨b1, b2⟩ := homL_spec f _ (J.sm hk) (by omega)
  have hm := mu_le J
  have step : ∀ dx s e, (dx = -2 ∨ dx = 2) → (e = -1 ∨ e = 1) → cT (addL (addL [] dx 0 1 (homL f (chD d (low d).toNat))) e 1 s (homL f (smD d (low d).toNat))) = cT (homL f (chD d (low d).toNat)) * Go.Proofs.YthppkofceancjaaGreat.mono (1000 * dx + 0) 1 + cT (homL f (smD d (low d).toNat)) * Go.Proofs.YthppkofceancjaaGreat.mono (1000 * e + 1) s := by
    intro dx s e hdx he
    obtain ⟨c1, c2, c3⟩ := addL_spec (B := bE d) (by unfold bE; omega) (dx := dx) (dz := 0) (s := 1) (l := homL f (chD d (low d).toNat)) (out := []) (fun t ht => by cases ht) Can.nil_ fun t ht => by
      have := a1 t ht
      unfold PB bE at *
      simp only at *
      omega
    obtain ⟨_, _, g3⟩ := addL_spec (B := bE d) (by unfold bE; omega) (dx := e) (dz := 1) (s := s) (l := homL f (smD d (low d).toNat)) c1 c2 fun t ht => by
      have := b1 t ht
      unfold PB bE at *
      simp only at *
      omega
    rw [g3, c3]
    show Pol.o + _ + _ = _
    rw [Pol.zero_add]
  rw [homL, if_neg hl]
  split
  · exact step _ _ _ (.inl rfl) (.inl rfl)
  · exact step _ _ _ (.inr rfl) (.inr rfl)
end Go.Proofs.YthppkofceancjaaGreat
namespace Go.Proofs.YthppkofceancjaaGreat
open Go.ChangeShapes Go.WideShapes Go.ChangeAt Go.RowKit
section
variable {κ ε : Type} [DecidableEq κ]
theorem fk_mp (k : κ) (v : ε) : ∀ (es : List (κ × ε)) (i : Nat), fk k (mp k v es) i = some (((fk k es i).map (·.1)).getD (i + es.length), v)
  | [], i => by simp [mp, fk]
  | p :: r, i => by
    unfold mp
    by_cases h : k = p.1
    · rw [if_pos h]; simp [fk, h]
    · rw [if_neg h]
      simp only [fk, if_neg h, fk_mp k v r (i + 1), List.length_cons]
      rw [show i + 1 + r.length = i + (r.length + 1) by omega]
theorem fk_at {k : κ} : ∀ {es : List (κ × ε)} {j : Nat} {v : ε}, fk k es 0 = some (j, v) → es[j]? = some (k, v) := by
  have key : ∀ (es : List (κ × ε)) (i j : Nat) (v : ε), fk k es i = some (j, v) → ∃ m, j = i + m ∧ es[m]? = some (k, v) := by
    intro es
    induction es with
    | nil => intro i j v h; cases h
    | cons p r ih =>
      intro i j v h
      unfold fk at h
      split at h
      · rename_i he
        injection h with h
        injection h with h1 h2
        exact ⟨0, by omega, by subst he; subst h2; rfl⟩
      · obtain ⟨m, h1, h2⟩ := ih _ _ _ h
        exact ⟨m + 1, by omega, by simpa using h2⟩
  intro es j v h
  obtain ⟨m, h1, h2⟩ := key es 0 j v h
  obtain rfl : j = m := by omega
  exact h2
theorem mp_mp (k : κ) (v v' : ε) : ∀ es : List (κ × ε), mp k v (mp k v' es) = mp k v es
  | [] => by simp [mp]
  | p :: r => by
    by_cases h : k = p.1
    · simp [mp, h]
    · simp [mp, h, mp_mp k v v' r]
theorem mg_mp_self (k : κ) (v v' : ε) (es : List (κ × ε)) : (mg k (mp k v es)).getD v' = v := by rw [mg_mp, if_pos rfl]; rfl
theorem born_idx {st : Nat} : ∀ {l : List MapEntry} {j : Nat}, (l.map (·.born)).Nodup → (l[j]?).map (·.born) = some st → l.findIdx? (fun e => ((e.born : Nat) : Int) == (st : Int)) = some j
  | [], _, _, h => by simp at h
  | e :: l, 0, _, h => by
    have h1 : e.born = st := by simpa using h
    rw [List.findIdx?_cons, if_pos (by simp [h1])]
  | e :: l, j + 1, hn, h => by
    obtain ⟨h1, h2⟩ := List.nodup_cons.1 (by simpa using hn : (e.born :: l.map (·.born)).Nodup)
    have h3 : (l[j]?).map (·.born) = some st := by simpa using h
    have hne : e.born ≠ st := fun e1 => h1 (by
      cases hl : l[j]? with
      | none => rw [hl] at h3; cases h3
      | some y =>
        rw [hl] at h3
        injection h3 with h3
        exact List.mem_map.2 ⟨y, List.mem_of_getElem? hl, (show y.born = e.born from by rw [e1]; exact h3)⟩)
    rw [List.findIdx?_cons, if_neg (by simpa using fun e1 => hne (by omega)), born_idx h2 h3]
    rfl
theorem set_same {α : Type} {l : List α} {j : Nat} {a : α} (h : l[j]? = some a) : l.set j a = l := by
  apply List.ext_getElem?
  intro q
  rw [List.getElem?_set]
  split
  · rename_i e
    subst e
    rw [h, if_pos (List.getElem?_eq_some_iff.1 h).1]
  · rfl
/-- A map one of whose entries has been found or made: its stamp. -/
def MpS (kc : κ → Value) (vc : ε → Value) (g : Nat) (es : List (κ × ε)) (k : κ) (st : Nat) (h : Hp) : Prop :=
  ∃ arr clock, h g = some (.map arr clock) ∧ arr.toList.map (fun e => (e.key, e.val)) = es.map (fun p => (kc p.1, vc p.2)) ∧ Stm arr clock ∧ ∃ j v, fk k es 0 = some (j, v) ∧ (arr[j]?).map (·.born) = some st
def Rs.mpS (kc : κ → Value) (vc : ε → Value) (g : Nat) (es : List (κ × ε)) (k : κ) (st : Nat) : Rs :=
  ⟨[g], MpS kc vc g es k st, fun h h' hb hk => by
    obtain ⟨arr, clock, h1, h2⟩ := hk
    exact ⟨arr, clock, by rw [hb g (by simp)]; exact h1, h2⟩⟩
end
section
variable {P : Program} {o : Oper} {L : List (Nat × Value)} {w w' : World} {x y z : Operand} {t T K E : TypeId} {v u : Value} {n d g i : Nat} {Kt : List (Nat × Value) → World → Prop} {M M' : Hp} {X : Fr} {H H' : List Rs}
variable {κ ε : Type} [DecidableEq κ] {kc : κ → Value} {vc : ε → Value} {es : List (κ × ε)}
theorem SH.unS {k : κ} {st : Nat} (S : SH w M X H) (hi : nth H i = some (Rs.mpS kc vc g es k st)) : SH w M X (H.set i (Rs.mp kc vc g es)) := by
  obtain ⟨arr, clock, h1, h2, h3, _⟩ := (S.get hi : MpS kc vc g es k st (hp w))
  exact S.step hi rfl ⟨rfl, rfl, rfl, Nat.le_refl _⟩ (fun b _ _ => rfl) ⟨arr, clock, h1, h2, h3⟩ (fun b hb => ⟨.inl hb, (S.bl _ (List.mem_of_getElem? (by rw [← nth_eq]; exact hi)) b (show b ∈ (Rs.mpS kc vc g es k st).bl from hb)).1⟩)
theorem run_lookupS {k k' : κ} {zv : ε} {st : Nat} (hop : o.op = .lookup T x y false) (hx : oev L x = some (.map (some g))) (hy : oev L y = some (kc k)) (hu : P.underlying T = some (.map K E)) (hK : MapK P K kc) (hz : (P.info? E).map (·.zero) = some (some (vc zv))) (S : SH w M X H) (hi : nth H i = some (Rs.mpS kc vc g es k' st)) : Run P o L w (vc ((mg k es).getD zv)) w :=
  run_lookup hop hx hy hu hK hz (S.unS hi) (by rw [nth_eq] at hi ⊢; exact List.getElem?_set_self (List.getElem?_eq_some_iff.1 hi).1)
theorem wo_mapEntry {k : κ} {zv : ε} (hop : o.op = .mapEntry T x y) (hd : o.dst = some d) (hn : Nat.blt d n = true) (S : SH w M X H) (hi : nth H i = some (Rs.mp kc vc g es)) (hx : oev L x = some (.map (some g))) (hy : oev L y = some (kc k)) (hu : P.underlying T = some (.map K E)) (hK : MapK P K kc) (hz : (P.info? E).map (·.zero) = some (some (vc zv)))
    (h : ∀ (st : Nat) w', SH w' M X (H.set i (Rs.mpS kc vc g (Go.Proofs.YthppkofceancjaaGreat.mp k ((mg k es).getD zv) es) k st)) → Kt ((d, .tuple #[vc ((mg k es).getD zv), .int .i64 (st : Int)]) :: L) w') : WO P n o L w Kt := by
  obtain ⟨arr, clock, hg, ha, hstm⟩ := (S.get hi : MpOk kc vc g es (hp w))
  have hf := hK.find k _ arr.toList w (map_pairs ha)
  rw [fk_map] at hf
  have hg' : w.heap[g]? = some (.map arr clock) := hg
  have hgo := MapKept.run_getObj_map (P := P) hg'
  have hc := fun b => hK.check k w b
  have hlen : arr.toList.length = es.length := by have := congrArg List.length ha; simpa using this
  have key : ∃ arr' clock' st, (Instr.mapEntry T (.map (some g)) (kc k)).run P w = .ok (.tuple #[vc ((mg k es).getD zv), .int .i64 ((st : Nat) : Int)]) { w with heap := w.heap.setIfInBounds g (.map arr' clock') } ∧ arr'.toList.map (fun e => (e.key, e.val)) = (Go.Proofs.YthppkofceancjaaGreat.mp k ((mg k es).getD zv) es).map (fun p => (kc p.1, vc p.2)) ∧ Stm arr' clock' ∧ ∃ j v, fk k (Go.Proofs.YthppkofceancjaaGreat.mp k ((mg k es).getD zv) es) 0 = some (j, v) ∧ (arr'[j]?).map (·.born) = some st := by
    cases hfk : fk k es 0 with
    | none =>
      rw [hfk] at hf
      have hm := (fk_none hfk).1
      rw [hm, Option.getD_none]
      refine ⟨arr.push { key := kc k, val := vc zv, born := clock }, clock + 1, clock, ?_, ?_, ?_, ?_⟩
      · simp only [Instr.mapEntry, Sem.run_bind, run_underlying hu, hgo, hc, hf, Result.andThen_ok, Option.map_none, run_zero hz, MapKept.run_setObj_map _ hg', Sem.run_pure]
        rfl
      · rw [(fk_none hfk).2 zv, Array.toList_push, List.map_append, List.map_append, ha]; rfl
      · refine ⟨?_, fun x hx => ?_⟩
        · rw [Array.toList_push, List.map_append]
          refine List.nodup_append.2 ⟨hstm.1, by simp, fun a ha' b hb' => ?_⟩
          obtain ⟨x, hx, rfl⟩ := List.mem_map.1 ha'
          simp at hb'
          have := hstm.2 x hx
          omega
        · rw [Array.toList_push] at hx
          rcases List.mem_append.1 hx with h1 | h1
          · have := hstm.2 x h1; omega
          · simp at h1; subst h1; exact Nat.lt_succ_self _
      · refine ⟨_, _, fk_mp k zv es 0, ?_⟩
        rw [hfk]
        show ((arr.push _)[0 + es.length]?).map _ = _
        rw [Nat.zero_add, ← hlen, Array.length_toList, Array.getElem?_push_size]
        rfl
    | some q =>
      obtain ⟨j, v⟩ := q
      rw [hfk] at hf
      obtain ⟨hm, m, hj, p, hp1, hp2, hset⟩ := fk_some hfk
      obtain rfl : j = m := by omega
      have hjl : j < es.length := (List.getElem?_eq_some_iff.1 hp1).1
      have hja : j < arr.size := by rw [← Array.length_toList, hlen]; exact hjl
      have hkv : (arr[j]?).map (fun e => (e.key, e.val)) = some (kc p.1, vc p.2) := by
        have h1 := congrArg (fun l => l[j]?) ha
        simp only [List.getElem?_map, hp1, Option.map_some] at h1
        rw [Array.getElem?_toList] at h1
        exact h1
      rw [Array.getElem?_eq_getElem hja, Option.map_some, Option.some.injEq, Prod.mk.injEq] at hkv
      rw [hp2] at hkv
      have hp3 := fk_at hfk
      have hv : p.2 = v := by rw [hp1] at hp3; simp at hp3; rw [hp3]
      have hmodk : (arr.modify j fun e' => { e' with key := kc k }) = arr := by
        apply Array.ext'
        apply List.ext_getElem?
        intro q
        rw [Array.getElem?_toList, Array.getElem?_modify, Array.getElem?_toList]
        by_cases hq : j = q
        · subst hq
          rw [if_pos rfl, Array.getElem?_eq_getElem hja, Option.map_some, ← hkv.1]
        · rw [if_neg hq]
      rw [hm, Option.getD_some]
      refine ⟨arr, clock, arr[j].born, ?_, ?_, hstm, j, v, ?_, by rw [Array.getElem?_eq_getElem hja]; rfl⟩
      · have hst : (Instr.keyThatStays (kc k) (kc k)).run P w = .ok (kc k) w := by
          unfold Instr.keyThatStays
          rw [if_pos (hK.bits k)]; rfl
        have hkey : (arr[j]?).map (·.key) = some (kc k) := by rw [Array.getElem?_eq_getElem hja, Option.map_some, hkv.1]
        simp only [Instr.mapEntry, Sem.run_bind, run_underlying hu, hgo, hc, hf, Result.andThen_ok, Option.map_some, hkey, Option.getD_some, hst, MapKept.run_setObj_map _ hg', hmodk, Sem.run_pure]
        rw [Array.getElem?_eq_getElem hja]
        rfl
      · rw [hset v, ha]
        have h4 : es.set j (k, v) = es := by
          rw [← hp2, ← hv]
          exact set_same hp1
        rw [h4]
      · have h5 := fk_mp k v es 0
        rw [hfk] at h5
        exact h5
  obtain ⟨arr', clock', st, hrun, hpairs, hstm', hst'⟩ := key
  have hlt := hp_lt hg
  refine wo_run (v := .tuple #[vc ((mg k es).getD zv), .int .i64 ((st : Nat) : Int)]) (w' := { w with heap := w.heap.setIfInBounds g (.map arr' clock') }) hd hn ?_ (h st _ ?_)
  · intro n c he
    unfold execOp
    simp only [hop, he.eval hx, he.eval hy, hrun, Sem.run_bind, Result.andThen_ok, Sem.run_pure]
  · refine S.step hi rfl (like_setB w g _) (fun b _ hb => ?_) ⟨arr', clock', ?_, hpairs, hstm', hst'⟩ (fun b hb => ⟨.inl hb, ?_⟩)
    · have hne : b ≠ g := by simpa [Rs.mp] using hb
      show (w.heap.setIfInBounds g _)[b]? = w.heap[b]?
      rw [Array.getElem?_setIfInBounds_ne (Ne.symm hne)]
    · show (w.heap.setIfInBounds g _)[g]? = _
      simp [hlt]
    · simp [Rs.mpS] at hb
      subst hb
      show _ < (w.heap.setIfInBounds _ _).size
      simpa using hlt
theorem wo_entryStore {k : κ} {e : ε} {st : Nat} (hop : o.op = .entryStore T x y z) (hd : o.dst = none) (S : SH w M X H) (hi : nth H i = some (Rs.mpS kc vc g es k st)) (hx : oev L x = some (.map (some g))) (hy : oev L y = some (.int .i64 (st : Int))) (hz : oev L z = some (vc e))
    (hH : H.set i (Rs.mp kc vc g (Go.Proofs.YthppkofceancjaaGreat.mp k e es)) = H') (h : ∀ w', SH w' M X H' → Kt L w') : WO P n o L w Kt := by
  obtain ⟨arr, clock, hg, ha, hstm, j, v, hfk, hb⟩ := (S.get hi : MpS kc vc g es k st (hp w))
  have hg' : w.heap[g]? = some (.map arr clock) := hg
  have hgo := MapKept.run_getObj_map (P := P) hg'
  have hlen : arr.toList.length = es.length := by have := congrArg List.length ha; simpa using this
  obtain ⟨hm, m, hj, p, hp1, hp2, hset⟩ := fk_some hfk
  obtain rfl : j = m := by omega
  have hjl : j < es.length := (List.getElem?_eq_some_iff.1 hp1).1
  have hja : j < arr.size := by rw [← Array.length_toList, hlen]; exact hjl
  have hkey : arr[j].key = kc k := by
    have h1 := congrArg (fun l => l[j]?) ha
    simp only [List.getElem?_map, hp1, Option.map_some] at h1
    rw [Array.getElem?_toList, Array.getElem?_eq_getElem hja] at h1
    simp only [Option.map_some, Option.some.injEq, Prod.mk.injEq] at h1
    rw [h1.1, hp2]
  rw [Array.getElem?_eq_getElem hja, Option.map_some, Option.some.injEq] at hb
  have hidx : arr.findIdx? (fun e => ((e.born : Nat) : Int) == (st : Int)) = some j := by
    obtain ⟨la⟩ := arr
    rw [show (Array.mk la).findIdx? (fun e => ((e.born : Nat) : Int) == (st : Int)) = la.findIdx? (fun e => ((e.born : Nat) : Int) == (st : Int)) from by simp]
    exact born_idx hstm.1 (by rw [Array.getElem?_toList, Array.getElem?_eq_getElem hja, Option.map_some, hb])
  have hrun : (Instr.entryStore T (.map (some g)) (.int .i64 (st : Int)) (vc e)).run P w = .ok () { w with heap := w.heap.setIfInBounds g (.map (arr.modify j fun e' => { e' with val := vc e }) clock) } := by
    simp [Instr.entryStore, hgo, asInt, asIntOf, hidx, MapKept.run_setObj_map _ hg', Result.andThen]
  have hlt := hp_lt hg
  refine wo_runS hd (w' := { w with heap := w.heap.setIfInBounds g (.map (arr.modify j fun e' => { e' with val := vc e }) clock) }) ?_ (h _ ?_)
  · intro n c he
    unfold execOp
    simp only [hop, he.eval hx, he.eval hy, he.eval hz, hrun, Sem.run_bind, Result.andThen_ok, Sem.run_pure]
  · refine S.step hi hH (like_setB w g _) (fun b _ hb => ?_) ⟨arr.modify j fun e' => { e' with val := vc e }, clock, ?_, ?_, ?_⟩ (fun b hb => ⟨.inl hb, ?_⟩)
    · have hne : b ≠ g := by simpa [Rs.mpS] using hb
      show (w.heap.setIfInBounds g _)[b]? = w.heap[b]?
      rw [Array.getElem?_setIfInBounds_ne (Ne.symm hne)]
    · show (w.heap.setIfInBounds g _)[g]? = _
      simp [hlt]
    · rw [hset e]
      apply List.ext_getElem?
      intro q
      have h1 := congrArg (fun l => l[q]?) ha
      simp only [List.getElem?_map] at h1 ⊢
      rw [Array.getElem?_toList, Array.getElem?_modify, List.getElem?_set]
      rw [Array.getElem?_toList] at h1
      by_cases hq : j = q
      · subst hq
        rw [if_pos rfl, if_pos rfl, if_pos hjl, Array.getElem?_eq_getElem hja]
        simp only [Option.map_some, hkey]
      · rw [if_neg hq, if_neg hq]
        exact h1
    · have hbn : (arr.modify j fun e' => { e' with val := vc e }).toList.map (·.born) = arr.toList.map (·.born) := by
        apply List.ext_getElem?
        intro q
        simp only [List.getElem?_map]
        rw [Array.getElem?_toList, Array.getElem?_modify, Array.getElem?_toList]
        by_cases hq : j = q
        · subst hq; rw [if_pos rfl, Array.getElem?_eq_getElem hja]; rfl
        · rw [if_neg hq]
      refine ⟨by rw [hbn]; exact hstm.1, fun x hx => ?_⟩
      have h2 : x.born ∈ arr.toList.map (·.born) := by rw [← hbn]; exact List.mem_map.2 ⟨x, hx, rfl⟩
      obtain ⟨y, hy, e2⟩ := List.mem_map.1 h2
      rw [← e2]; exact hstm.2 y hy
    · simp [Rs.mp] at hb
      subst hb
      show _ < (w.heap.setIfInBounds _ _).size
      simpa using hlt
end
section
variable {P : Program} {ops : Array Oper} {Q : Exit → Act → World → Prop} {md : Region.Mode} {X : Fr}
/-- What leaves memory alone and does not look at it; and what is never taken first. -/
def pureOpY (ops : Array Oper) (k : Nat) : Bool := match ops[k]? with
  | some o => (match o.op with
    | .move _ => true
    | .assign _ => true
    | .pick _ _ _ => true
    | .binOp _ _ _ _ _ => true
    | .unOp _ _ _ => true
    | .field _ _ _ => true
    | .extract _ _ => true
    | .fieldAddr _ _ _ => true
    | .nilCheck _ => true
    | .alloc _ => true
    | .box _ _ => true
    | .store _ _ _ => true
    | .buildSlice _ _ _ => true
    | .makeSlice _ _ _ => true
    | .lookup _ _ _ _ => true
    | _ => false)
  | none => false
/-- All that is listed comes before j, or is pure. -/
def closPY (md : Region.Mode) (ops : Array Oper) (l : Array Bool) (j : Nat) : Bool := (List.range ops.size).all fun k => !l.getD k false || pureOpY ops k || (allBefore md ops ops.size j).contains k
theorem closP_notY {l : Array Bool} (hd : Down md ops l) {i j : Nat} (hj : j ∈ Region.ready md ops l) (hc : closPY md ops (l.setIfInBounds i true) j = true) (hs : pureOpY ops i = false) (hlt : i < ops.size) (hil : ¬ l.getD i false = true) (hsz : i < l.size) : False := by
  have := List.all_eq_true.1 hc i (by simpa using hlt)
  have e : (l.setIfInBounds i true).getD i false = true := by simp [Array.getD_eq_getD_getElem?, hsz]
  simp only [e, Bool.not_true, hs, Bool.false_or] at this
  exact hil (down_all hd ops.size j (ready_preds hj) i (List.contains_iff_mem.1 this))
/-- Any order; what lay at the base (Mb, Hb) stays, unless all that is listed comes before. -/
def AnyMY (P : Program) (md : Region.Mode) (ops : Array Oper) (Q : Exit → Act → World → Prop) (X : Fr) : Nat → Array Bool → Act → Hp → List Rs → Hp → List Rs → Prop
  | 0, l, a, _, _, M, H => ∀ w, SH w M X H → Region.ready md ops l = [] ∧ Q .normal a w
  | f + 1, l, a, Mb, Hb, M, H => ∀ w, SH w M X H → Down md ops l → (Region.ready md ops l = [] → Q .normal a w) ∧
    ∀ j ∈ Region.ready md ops l, wpOp P ops Q j (fun a2 w2 => ∃ M2 H2, SH w2 M2 X H2 ∧
      ((Grown Mb Hb M2 H2 ∧ AnyMY P md ops Q X f (l.setIfInBounds j true) a2 Mb Hb M2 H2) ∨ (closPY md ops l j = true ∧ AnyMY P md ops Q X f (l.setIfInBounds j true) a2 M2 H2 M2 H2))) a w
theorem AnyMY.any : ∀ (f : Nat) (l : Array Bool) (a : Act) (Mb : Hp) (Hb : List Rs) (M : Hp) (H : List Rs) (w : World), SH w M X H → Down md ops l → AnyMY P md ops Q X f l a Mb Hb M H → wpAny P md ops Q f l a w := by
  intro f
  induction f with
  | zero => intro l a Mb Hb M H w S _ h; exact h w S
  | succ f ih =>
    intro l a Mb Hb M H w S hd h
    obtain ⟨h0, h1⟩ := h w S hd
    refine ⟨h0, fun j hj => wpOp_mono (fun a2 w2 hc => ?_) (h1 j hj)⟩
    obtain ⟨M2, H2, S2, ⟨_, hc⟩ | ⟨_, hc⟩⟩ := hc
    · exact ih _ _ _ _ _ _ _ S2 (down_set hd hj) hc
    · exact ih _ _ _ _ _ _ _ S2 (down_set hd hj) hc
/-- It yields v here; if it counts as pure, everywhere. -/
def YieldAY (P : Program) (ops : Array Oper) (X : Fr) (i : Nat) (o : Oper) (v : Value) (a : Act) (M : Hp) (H : List Rs) : Prop :=
  YieldM P ops X o v a M H ∧ (pureOpY ops i = true → ∀ M H, YieldM P ops X o v a M H)
theorem AnyMY.first_ {i : Nat} {oi : Oper} {v : Value} (hi : ops[i]? = some oi) (hsel : ∀ (j : Nat) (o : Oper) cs b, ops[j]? = some o → o.op ≠ .select cs b) (hQ : ∀ c a w, Q (.panic c) (a.put oi.dst v) w → Q (.panic c) a w) :
    ∀ (f : Nat) (l : Array Bool) (a : Act) (Mb : Hp) (Hb : List Rs) (M : Hp) (H : List Rs),
      (∀ j oj, ops[j]? = some oj → j ≠ i → l.getD j true = false → (∀ e ∈ oj.after, Region.binds md e = true → e.on ≠ i) → oi.apart ops oj = true) →
      i ∈ Region.ready md ops l → Grown Mb Hb M H → YieldAY P ops X i oi v a Mb Hb → AnyMY P md ops Q X f (l.setIfInBounds i true) (a.put oi.dst v) Mb Hb M H → AnyMY P md ops Q X (f + 1) l a Mb Hb M H := by
  intro f
  induction f with
  | zero =>
    intro l a Mb Hb M H _ hr hg hy hH w S hd
    refine ⟨fun h => (by rw [h] at hr; cases hr), fun j hj => ?_⟩
    by_cases hji : j = i
    · subst hji
      exact hy.1.wpOp S hg hi fun w2 S2 => ⟨M, H, S2, .inl ⟨hg, hH⟩⟩
    · have := ready_mono hj hji
      rw [(hH w S).1] at this
      cases this
  | succ f ih =>
    intro l a Mb Hb M H hfree hr hg hy hH w S hd
    refine ⟨fun h => (by rw [h] at hr; cases hr), fun j hj => ?_⟩
    by_cases hji : j = i
    · subst hji
      exact hy.1.wpOp S hg hi fun w2 S2 => ⟨M, H, S2, .inl ⟨hg, hH⟩⟩
    · have h1 := (hH w S (down_set hd hr)).2 j (ready_mono hj hji)
      obtain ⟨hjun, oj, hoj, hall⟩ := mem_ready.1 hj
      have hiun := (mem_ready.1 hr).1
      have hilt : i < ops.size := (Array.getElem?_eq_some_iff.1 hi).1
      have hisz : i < l.size := by
        rcases Nat.lt_or_ge i l.size with h' | h'
        · exact h'
        · simp [Array.getD_eq_getD_getElem?, Array.getElem?_eq_none h'] at hiun
      have hnl : ¬ l.getD i false = true := by
        intro h
        simp [hisz] at h hiun; rw [hiun] at h; cases h
      have hnot : ∀ e ∈ oj.after, Region.binds md e = true → e.on ≠ i := fun e he hb heq => hnl (by have h2 := hall e he hb; rw [heq] at h2; exact h2)
      have hap := hfree j oj hoj hji hjun hnot
      obtain ⟨p1, p2, p3⟩ := Oper.apart_spec hap
      have hfree' : ∀ k ok, ops[k]? = some ok → k ≠ i → (l.setIfInBounds j true).getD k true = false → (∀ e ∈ ok.after, Region.binds md e = true → e.on ≠ i) → oi.apart ops ok = true := fun k ok hk hki hun hno => by
        refine hfree k ok hk hki ?_ hno
        by_cases hjk : j = k
        · subst hjk; exact hjun
        · rw [getD_set_ne true hjk] at hun; exact hun
      have keep1 : ∀ (b : Act) (M : Hp) (H : List Rs), YieldM P ops X oi v b M H → ∀ u, YieldM P ops X oi v (b.put oj.dst u) M H := fun b M H hb u => hb.of_same (execOp_put oi (fun cs b => hsel i oi cs b hi) b oj.dst u p3) (wanted_put oi b oj.dst u p3)
      have keep : ∀ (b : Act), YieldAY P ops X i oi v b Mb Hb → ∀ u, YieldAY P ops X i oi v (b.put oj.dst u) Mb Hb := fun b hb u => ⟨keep1 b Mb Hb hb.1 u, fun hp M' H' => keep1 b M' H' (hb.2 hp M' H') u⟩
      have cont : ∀ (b : Act) (w2 : World), YieldAY P ops X i oi v b Mb Hb → (∃ M2 H2, SH w2 M2 X H2 ∧ ((Grown Mb Hb M2 H2 ∧ AnyMY P md ops Q X f ((l.setIfInBounds i true).setIfInBounds j true) (b.put oi.dst v) Mb Hb M2 H2) ∨ (closPY md ops (l.setIfInBounds i true) j = true ∧ AnyMY P md ops Q X f ((l.setIfInBounds i true).setIfInBounds j true) (b.put oi.dst v) M2 H2 M2 H2))) →
          (∃ M2 H2, SH w2 M2 X H2 ∧ ((Grown Mb Hb M2 H2 ∧ AnyMY P md ops Q X (f + 1) (l.setIfInBounds j true) b Mb Hb M2 H2) ∨ (closPY md ops l j = true ∧ AnyMY P md ops Q X (f + 1) (l.setIfInBounds j true) b M2 H2 M2 H2))) := by
        intro b w2 hb hc
        obtain ⟨M2, H2, S2, ⟨hg2, hc⟩ | ⟨hx, hc⟩⟩ := hc
        · rw [Array.setIfInBounds_comm _ _ (Ne.symm hji)] at hc
          exact ⟨M2, H2, S2, .inl ⟨hg2, ih (l.setIfInBounds j true) b Mb Hb M2 H2 hfree' (ready_mono hr (Ne.symm hji)) hg2 hb hc⟩⟩
        · cases hp : pureOpY ops i with
          | false => exact (closP_notY hd hj hx hp hilt hnl hisz).elim
          | true =>
            rw [Array.setIfInBounds_comm _ _ (Ne.symm hji)] at hc
            refine ⟨M2, H2, S2, .inr ⟨?_, ih (l.setIfInBounds j true) b M2 H2 M2 H2 hfree' (ready_mono hr (Ne.symm hji)) (Grown.refl _ _) ⟨hb.2 hp M2 H2, hb.2⟩ hc⟩⟩
            refine List.all_eq_true.2 fun k hk => ?_
            have := List.all_eq_true.1 hx k hk
            by_cases hki : i = k
            · subst hki; simp [hp]
            · rw [getD_set_ne false hki] at this
              exact this
      unfold Go.wpOp at h1 ⊢
      simp only [hoj] at h1 ⊢
      rw [wanted_put oj a oi.dst v p1] at h1
      have hse := execOp_put oj (fun cs b => hsel j oj cs b hoj) a oi.dst v p1
      split
      · rename_i hw
        simp only [hw, if_true] at h1
        rcases h1 with h1 | ⟨hasks, hlets⟩
        · refine .inl (wp_shift hse (fun u w2 hk => ?_) (fun d w2 hk => ?_) (fun c w2 hq => hQ c _ _ hq) h1)
          · refine cont _ w2 (keep a hy u) ?_
            rw [← Act.put_comm a v u p2]
            exact hk
          · have hd0 : YieldAY P ops X i oi v ({ a with defers := d :: a.defers } : Act) Mb Hb := ⟨hy.1.of_same rfl rfl, fun hp M' H' => (hy.2 hp M' H').of_same rfl rfl⟩
            refine cont _ w2 (keep { a with defers := d :: a.defers } hd0 _) ?_
            rw [← Act.put_comm _ v undef p2, ← Act.put_defers]
            exact hk
        · exact .inr ⟨asks_shift hse hasks, hlets⟩
      · rename_i hw
        simp only [hw] at h1
        refine cont _ w (keep a hy _) ?_
        rw [← Act.put_comm a v undef p2]
        exact h1
end
section
variable {P : Program} {n : Nat} {C : Ctx} {c : Code} {s : List K} {L : List (Nat × Value)} {w : World} {Mb M : Hp} {X : Fr} {Hb H : List Rs} {l : Array Bool} {f : Nat}
def WAY (P : Program) (n : Nat) (C : Ctx) (c : Code) (s : List K) (X : Fr) (f : Nat) (l : Array Bool) (L : List (Nat × Value)) (Mb : Hp) (Hb : List Rs) (M : Hp) (H : List Rs) : Prop := Grown Mb Hb M H → ∀ a, Env n L a → AnyMY P .any (rg c) (post P C s) X f l a Mb Hb M H
theorem ws_drawY (hk : kind c = 8) (hm : P.follows .mixedOrders = true) (S : SH w M X H) (f : Nat) (hf : (rg c).size = f) (h : WAY P n C c s X f (Array.replicate f false) L M H M H) : WS P n C c s L w := by
  intro a ha
  rw [kind_draw hk]
  refine wp_region_any hm ?_
  rw [hf]
  exact AnyMY.any _ _ _ _ _ _ _ _ (S.kp ⟨rfl, rfl, rfl, Nat.le_refl _⟩ fun _ _ => rfl) (down_start _) (h (Grown.refl _ _) a ha)
theorem waY_end (hr : Region.ready .any (rg c) l = []) (h : ∀ w, SH w M X H → NM P n C s L w) : WAY P n C c s X f l L Mb Hb M H := by
  intro _ a ha
  cases f with
  | zero => exact fun w S => ⟨hr, h w S a ha⟩
  | succ f => exact fun w S _ => ⟨fun _ => h w S a ha, by rw [hr]; simp⟩
theorem waY_take {i d : Nat} {o : Oper} {v : Value} (f : Nat) (ho : op c i = some o) (hs : (Region.noSelect (rg c) && !pureOpY (rg c) i) = true) (hf : Region.free .any (rg c) l i = true) (hr : (Region.ready .any (rg c) l).contains i = true)
    (hg : Wanted c L o.guard true) (hd : o.dst = some d) (hn : (Nat.blt d n && gslot c o n) = true)
    (hy : ∀ M2 N w, Mb.le M2 → SH w M2 X (N ++ Hb) → (Run P o L w v w ∨ ∃ fid vs, (∀ n a, Env n L a → (execOp a.eval o).run P w = .ok (.enter fid vs) w) ∧ Calls P fid vs w fun e w3 => e = .returned v ∧ SH w3 M2 X (N ++ Hb)))
    (h : WAY P n C c s X f (l.setIfInBounds i true) ((d, v) :: L) Mb Hb M H) : WAY P n C c s X (f + 1) l L Mb Hb M H := by
  intro hg0 a ha
  simp only [Bool.and_eq_true] at hn
  simp only [Bool.and_eq_true, Bool.not_eq_true'] at hs
  refine AnyMY.first_ (v := v) (op_get ho) (Region.noSelect_spec hs.1) (fun ch b w hq => post_panic (put_defers' _ _ _) hq) f l a Mb Hb M H (Region.free_spec (op_get ho) hf) (by simpa using hr) hg0 ⟨?_, fun hp => by rw [hs.2] at hp; cases hp⟩ ?_
  · refine .inl ⟨wanted_eq ha hg (gslot_spec hn.2), fun M2 N w k S => ?_⟩
    rcases hy M2 N w k S with hrun | ⟨fid, vs, h1, h2⟩
    · rw [hrun n a ha]
      exact ⟨rfl, S⟩
    · rw [h1 n a ha]
      exact h2
  · rw [hd]
    exact h hg0 _ (ha.put (by simpa using hn.1) v)
theorem waY_takeP {i d : Nat} {o : Oper} {v : Value} (f : Nat) (ho : op c i = some o) (hs : Region.noSelect (rg c) = true) (hf : Region.free .any (rg c) l i = true) (hr : (Region.ready .any (rg c) l).contains i = true)
    (hg : Wanted c L o.guard true) (hd : o.dst = some d) (hn : (Nat.blt d n && gslot c o n) = true) (hy : ∀ w, Run P o L w v w)
    (h : WAY P n C c s X f (l.setIfInBounds i true) ((d, v) :: L) Mb Hb M H) : WAY P n C c s X (f + 1) l L Mb Hb M H := by
  intro hg0 a ha
  simp only [Bool.and_eq_true] at hn
  have key : ∀ M H, YieldM P (rg c) X o v a M H := fun M H => .inl ⟨wanted_eq ha hg (gslot_spec hn.2), fun M2 N w k S => by
    rw [hy w n a ha]
    exact ⟨rfl, S⟩⟩
  refine AnyMY.first_ (v := v) (op_get ho) (Region.noSelect_spec hs) (fun ch b w hq => post_panic (put_defers' _ _ _) hq) f l a Mb Hb M H (Region.free_spec (op_get ho) hf) (by simpa using hr) hg0 ⟨key Mb Hb, fun _ => key⟩ ?_
  rw [hd]
  exact h hg0 _ (ha.put (by simpa using hn.1) v)
/-- What an operation that has been carried out leaves. -/
def LeftWY (P : Program) (n : Nat) (C : Ctx) (c : Code) (s : List K) (X : Fr) (f : Nat) (l : Array Bool) (j : Nat) (Mb : Hp) (Hb : List Rs) (L' : List (Nat × Value)) (w' : World) : Prop :=
  ∃ M2 H2, SH w' M2 X H2 ∧ ((Grown Mb Hb M2 H2 ∧ WAY P n C c s X f (l.setIfInBounds j true) L' Mb Hb M2 H2) ∨ (closPY .any (rg c) l j = true ∧ WAY P n C c s X f (l.setIfInBounds j true) L' M2 H2 M2 H2))
theorem LeftWY.grow {j : Nat} {L' : List (Nat × Value)} {w' : World} {M2 : Hp} (N : List Rs) (k : Mb.le M2) (S : SH w' M2 X (N ++ Hb)) (h : WAY P n C c s X f (l.setIfInBounds j true) L' Mb Hb M2 (N ++ Hb)) : LeftWY P n C c s X f l j Mb Hb L' w' := ⟨M2, N ++ Hb, S, .inl ⟨⟨k, N, rfl⟩, h⟩⟩
theorem LeftWY.turn {j : Nat} {L' : List (Nat × Value)} {w' : World} {M2 : Hp} {H2 : List Rs} (hc : closPY .any (rg c) l j = true) (S : SH w' M2 X H2) (h : WAY P n C c s X f (l.setIfInBounds j true) L' M2 H2 M2 H2) : LeftWY P n C c s X f l j Mb Hb L' w' := ⟨M2, H2, S, .inr ⟨hc, h⟩⟩
theorem LeftWY.out {j : Nat} {L' : List (Nat × Value)} {w' : World} {a' : Act} (he : Env n L' a') (h : LeftWY P n C c s X f l j Mb Hb L' w') : ∃ M2 H2, SH w' M2 X H2 ∧
      ((Grown Mb Hb M2 H2 ∧ AnyMY P .any (rg c) (post P C s) X f (l.setIfInBounds j true) a' Mb Hb M2 H2) ∨ (closPY .any (rg c) l j = true ∧ AnyMY P .any (rg c) (post P C s) X f (l.setIfInBounds j true) a' M2 H2 M2 H2)) := by
  obtain ⟨M2, H2, S, ⟨hg, h⟩ | ⟨hc, h⟩⟩ := h
  · exact ⟨M2, H2, S, .inl ⟨hg, h hg a' he⟩⟩
  · exact ⟨M2, H2, S, .inr ⟨hc, h (Grown.refl _ _) a' he⟩⟩
theorem wp_leftY {i : Nat} {o : Oper} {a : Act} (ho : op c i = some o) (ha : Env n L a) (hg : Wanted c L o.guard true) (hs : gslot c o n = true) (h : WO P n o L w (LeftWY P n C c s X f l i Mb Hb)) : Go.wpOp P (rg c) (post P C s) i (fun a2 w2 => ∃ M2 H2, SH w2 M2 X H2 ∧
      ((Grown Mb Hb M2 H2 ∧ AnyMY P .any (rg c) (post P C s) X f (l.setIfInBounds i true) a2 Mb Hb M2 H2) ∨ (closPY .any (rg c) l i = true ∧ AnyMY P .any (rg c) (post P C s) X f (l.setIfInBounds i true) a2 M2 H2 M2 H2))) a w := by
  unfold Go.wpOp
  simp only [op_get ho]
  rw [if_pos (wanted_eq ha hg (gslot_spec hs))]
  exact .inl (h a ha _ _ fun L' a' w' he hl => hl.out he)
/-- The only one that is ready. -/
theorem waY_only {i : Nat} {o : Oper} (f : Nat) (ho : op c i = some o) (hr : Region.ready .any (rg c) l = [i]) (hg : Wanted c L o.guard true) (hs : gslot c o n = true)
    (h : ∀ w, SH w M X H → WO P n o L w (LeftWY P n C c s X f l i Mb Hb)) : WAY P n C c s X (f + 1) l L Mb Hb M H := by
  intro _ a ha w S hd
  refine ⟨fun h0 => (by rw [hr] at h0; cases h0), fun k hk => ?_⟩
  rw [hr, List.mem_singleton] at hk
  subst hk
  exact wp_leftY ho ha hg hs (h w S)
/-- Two are ready: either may come first. -/
theorem waY_two {i j : Nat} {o o' : Oper} (f : Nat) (ho : op c i = some o) (ho' : op c j = some o') (hr : Region.ready .any (rg c) l = [i, j]) (hg : Wanted c L o.guard true) (hs : gslot c o n = true) (hg' : Wanted c L o'.guard true) (hs' : gslot c o' n = true)
    (h : ∀ w, SH w M X H → WO P n o L w (LeftWY P n C c s X f l i Mb Hb)) (h' : ∀ w, SH w M X H → WO P n o' L w (LeftWY P n C c s X f l j Mb Hb)) : WAY P n C c s X (f + 1) l L Mb Hb M H := by
  intro _ a ha w S hd
  refine ⟨fun h0 => (by rw [hr] at h0; cases h0), fun k hk => ?_⟩
  rw [hr] at hk
  rcases List.mem_cons.1 hk with rfl | hk
  · exact wp_leftY ho ha hg hs (h w S)
  · rw [List.mem_singleton] at hk
    subst hk
    exact wp_leftY ho' ha hg' hs' (h' w S)
end
section
variable {P : Program} {n : Nat} {C : Ctx} {c : Code} {s : List K} {L : List (Nat × Value)} {w : World} {M : Hp} {X : Fr} {H : List Rs}
end
end Go.Proofs.YthppkofceancjaaGreat
namespace Go.Proofs.YthppkofceancjaaGreat
open Go.ChangeShapes Go.WideShapes Go.ChangeAt Go.RowKit
def pwF (x : Pw) : List Value := [.int .i64 x.x, .int .i64 x.z]
def cdPw : Cd Pw := ⟨pwF, 2, 16, 90, ⟨0, 0⟩, fun _ => rfl, by
 intro x u hu
 simp [pwF] at hu
 rcases hu with rfl | rfl <;> rfl⟩
def t2F (x : T2) : List Value := [.int .i64 x.x, .int .i64 x.z, .int .i64 x.c]
def cdT2 : Cd T2 := ⟨t2F, 3, 24, 97, ⟨0, 0, 0⟩, fun _ => rfl, by
 intro x u hu
 simp [t2F] at hu
 rcases hu with rfl | rfl | rfl <;> rfl⟩
theorem mk90 : MapK Tryz.prog 90 (fun x => Value.agg (cdPw.f x).toArray) := mapK_st se90 (fun x y => ⟨x.x = y.x ∧ x.z = y.z, ⟨_, _, _, _, rfl, rfl, ⟨_, _, _, rfl, rfl, rfl⟩, rfl⟩, ⟨fun h => by cases x; cases y; simp at h; simp [h], fun h => by rw [h]; exact ⟨rfl, rfl⟩⟩⟩) (fun k => by simp [Instr.sameBits, cdPw, pwF])
theorem EntP.at_ {es dn lf l1 l2 : List (Pw × Int)} {k : Pw} {v : Int} {B : Nat} (h : EntP es B) (hp : (dn ++ lf).Perm es) (hl : lf = l1 ++ (k, v) :: l2) : PB B k ∧ wr v = v := h.2 (k, v) (hp.mem_iff.1 (by rw [hl]; simp))
theorem cE_nil : cE [] = Pol.o := rfl
theorem cE_snoc (dn : List (Pw × Int)) (k : Pw) (v : Int) : cE (dn ++ [(k, v)]) = cE dn + mono (enc k) v := by
 unfold cE eE
 rw [List.map_append]
 exact mk_snoc _ _ _
theorem cE_perm {a b : List (Pw × Int)} (h : a.Perm b) : cE a = cE b := mk_perm (h.map _)
theorem addP_step {B : Nat} (hB : B ≤ 400) {es dn : List (Pw × Int)} {S : Pol} {q k : Pw} {v c : Int} (h : EntP es B) (hk : PB B (pAdd k q)) (hS : cE es = S + cE dn * mono (enc q) c) : EntP (mp (pAdd k q) (wr ((mg (pAdd k q) es).getD 0 + wr (v * c))) es) B ∧ cE (mp (pAdd k q) (wr ((mg (pAdd k q) es).getD 0 + wr (v * c))) es) = S + cE (dn ++ [(k, v)]) * mono (enc q) c := by
 refine ⟨h.mp_ hk (wr_idem _), ?_⟩
 rw [cE_add hB h hk, hS, cE_snoc, Pol.add_mul, mono_mul, Pol.add_assoc, enc_add]
 exact congrArg _ (congrArg _ (mono_congr rfl (md_wr _)))
noncomputable def addH_n0 : Code := Tryz.f89.body.getD .skip
noncomputable def addH_n1 : Code := cL addH_n0
noncomputable def addH_n2 : Code := cR addH_n0
noncomputable def addH_n3 : Code := cL addH_n2
noncomputable def addH_n4 : Code := cR addH_n2
noncomputable def addH_n5 : Code := cL addH_n4
noncomputable def addH_n6 : Code := cL addH_n5
noncomputable def addH_n7 : Code := cL addH_n6
noncomputable def addH_n8 : Code := cR addH_n6
noncomputable def addH_n9 : Code := cL addH_n8
noncomputable def addH_n10 : Code := cR addH_n8
noncomputable def addH_n11 : Code := cL addH_n9
noncomputable def addH_n12 : Code := cR addH_n9
noncomputable def addH_n13 : Code := cL addH_n10
noncomputable def addH_n14 : Code := cL addH_n13
noncomputable def addH_n15 : Code := cR addH_n13
set_option maxHeartbeats 1000000 in
set_option maxRecDepth 10000 in
theorem addH_b {w : World} {M : Hp} {X : Fr} (es : List (Pw × Int)) {gw : Nat} (vs : List (Pw × Int)) {gv : Nat} (q : Pw) (c : Int) (hmv : MpOk (fun x => Value.agg (cdPw.f x).toArray) (Value.int .i64) gv vs M) {B C : Nat} (hB : B ≤ 400) (hes : EntP es B) (hvs : EntP vs C) (hq : -2 ≤ q.x ∧ q.x ≤ 2 ∧ -2 ≤ q.z ∧ q.z ≤ 2) (hC : C ≤ 398) (hBk : ∀ k, PB C k → PB B (pAdd k q)) (S : SH w M X [Rs.bun [Rs.mp (fun x => Value.agg (cdPw.f x).toArray) (Value.int .i64) gw es]]) : C1 Tryz.prog 89 [.map (some gw), .map (some gv), .agg [.int .i64 q.x, .int .i64 q.z].toArray, .int .i64 c] w M X (fun u M' r' => u = tup [] ∧ M' = M ∧ ∃ e', r' = Rs.bun [Rs.mp (fun x => Value.agg (cdPw.f x).toArray) (Value.int .i64) gw e'] ∧ EntP e' B ∧ cE e' = cE es + cE vs * mono (enc q) c) := by
 unfold C1
 replace S := S.unbun
 refine calls_in (b := addH_n0) Tryz.func89 rfl Tryz.ntmps89 rfl (fun C hC => (ws_sub [(0, _), (1, _), (2, _), (3, _)] ⟨rfl, rfl, rfl, rfl, trivial⟩ (ws_seqN addH_n1 addH_n2 rfl rfl rfl (ws_region rfl (wlo 0 1 rfl rfl rfl (wo_box (l := [_, _]) rfl rfl rfl rfl rfl S ?_))))))
 intro gb1 w1 S1; clear S
 refine wl_end rfl (nmk [0, 1, 3, 6] rfl (nm_thn (ws_seqN addH_n3 addH_n4 rfl rfl rfl (ws_region rfl (wlm 0 1 rfl rfl rfl rfl rfl rfl rfl ?_)))))
 obtain ⟨arr1, clk1, hE1⟩ := hmv.ents
 refine wlo 1 2 rfl rfl rfl (wo_range rfl rfl rfl rfl Tryz.underlying85 S1 hE1 S1.m ?_)
 intro r1 w2 S2; clear S1
 refine wl_end rfl (nmk [0, 3, 6, 11] rfl (nm_thn (ws_blockN addH_n5 0 rfl rfl rfl ?_)))
 refine ws_loopE (fun mx_ ax_ wx_ => ∃ (sn : Array Nat) (dn : List (Pw × Int)) (lf : List (Pw × Int)) (e2 : List (Pw × Int)), mx_ = lf.length ∧ Env 36 [(0, .map (some gw)), (3, .int .i64 c), (6, .pointer (some ⟨gb1, 0, none⟩)), (11, .pointer (some ⟨r1, 0, none⟩))] ax_ ∧ SH wx_ M X [Rs.itr gv clk1 r1 sn, Rs.box gb1 90 [.int .i64 q.x, .int .i64 q.z], Rs.mp (fun x => Value.agg (cdPw.f x).toArray) (Value.int .i64) gw e2] ∧ Lft (fun x => Value.agg (cdPw.f x).toArray) (Value.int .i64) arr1 sn lf ∧ (dn ++ lf).Perm vs ∧ EntP e2 B ∧ cE e2 = cE es + cE dn * mono (enc q) c) rfl ?_ ?_
 ·intro ax_ hax_
  refine ⟨_, ⟨#[], [], vs, es, rfl, hax_.sub ⟨rfl, rfl, rfl, rfl, trivial⟩, S2.pick [0, 1, 2] [_, _, _] (by decide) ⟨rfl, rfl, rfl, trivial⟩, ?hq1f0, ?hq1f1, ?hq1f2, ?hq1f3⟩⟩
  case hq1f0 => exact hE1.lft
  case hq1f1 => exact List.Perm.refl _
  case hq1f2 => exact hes
  case hq1f3 => (rw [cE_nil, Pol.zero_mul, Pol.add_zero])
 ·rintro m1 a1 w3 ⟨sn, dn, lf, e2, rfl, he1, S3, hlf, hpm, he, hS⟩
  clear S2
  refine ws_in he1 (c := addH_n6) rfl ?_
  clear he1 a1
  refine ws_seqN addH_n7 addH_n8 rfl rfl rfl (ws_region rfl ?_)
  refine wlo 0 1 rfl rfl rfl (wo_next (i := 0) rfl rfl rfl rfl S3 rfl hE1 S3.m hlf (fun hlf1 => ?_) (fun k1 v1 l1_1 l2_1 sn1 w4 hlf1 hlft1 hlst1 S4 => ?_))
  ·refine wlo 1 2 rfl rfl rfl (wo_run rfl rfl (run_extract rfl rfl rfl) (wl_end rfl (nmk [0, 3, 6, 11, 13] rfl (nm_thn (ws_seqN addH_n9 addH_n10 rfl rfl rfl (ws_condFN addH_n12 rfl rfl rfl (ws_exit rfl rfl (nm_end hC [] rfl trivial ?_))))))))
   refine ⟨_, rfl, _, _, Hp.le_refl _, (S3.pick [2] [_] (by decide) ⟨rfl, trivial⟩).bun, ?_⟩
   obtain rfl : lf = [] := hlf1
   rw [List.append_nil] at hpm
   exact ⟨rfl, rfl, _, rfl, he, by rw [← cE_perm hpm]; exact hS⟩
  ·clear S3
   change SH _ _ _ [Rs.itr gv clk1 r1 sn1, _, _] at S4
   refine wlo 1 2 rfl rfl rfl (wo_run rfl rfl (run_extract rfl rfl rfl) (wl_end rfl (nmk [0, 3, 6, 11, 13] rfl (nm_thn (ws_seqN addH_n9 addH_n10 rfl rfl rfl (ws_condTN addH_n11 rfl rfl rfl (ws_skip rfl (nmk [0, 3, 6, 11] rfl (nm_thn ?_)))))))))
   refine ws_blockN addH_n13 1 rfl rfl rfl (ws_seqN addH_n14 addH_n15 rfl rfl rfl (ws_region rfl (wlo 0 1 rfl rfl rfl (wo_run rfl rfl (run_entry (i := 0) rfl rfl S4 rfl hE1 S4.m hlst1) (wlo 1 2 rfl rfl rfl (wo_run rfl rfl (run_extract rfl rfl rfl) (wlo 2 3 rfl rfl rfl (wo_run rfl rfl (run_extract rfl rfl rfl) (wlo 3 4 rfl rfl rfl (wo_alloc (l := [_, _]) rfl rfl rfl zr90 rfl S4 ?_))))))))))
   intro gb2 w5 S5; clear S4
   refine wlo 4 5 rfl rfl rfl (wo_storeB (i := 0) (us := [_, _]) (l' := [_, _]) (H' := [_, _, _, _]) rfl rfl S5 rfl rfl rfl rfl sz90 rfl rfl rfl rfl ?_)
   intro w6 S6; clear S5
   refine wla 5 6 rfl rfl rfl rfl rfl rfl rfl (wl_end rfl (nmk [0, 3, 6, 11, 8, 9] rfl (nm_thn ?_)))
   have hkb := hvs.at_ hpm hlf1
   have hkc := hkb.1
   unfold PB at hkc
   refine ws_drawY rfl (by kernel_rfl) S6 20 rfl ?_
   clear S6
   refine waY_takeP (i := 0) (d := 17) 19 rfl (by kernel_rfl) (by kernel_rfl) (by kernel_rfl) rfl rfl rfl (fun w7 => run_move rfl rfl) ?_
   refine waY_takeP (i := 1) (d := 18) 18 rfl (by kernel_rfl) (by kernel_rfl) (by kernel_rfl) rfl rfl rfl (fun w8 => run_fieldAddr rfl rfl Tryz.underlying90 rfl (ce3) (nf3)) ?_
   refine waY_take (i := 2) (d := 19) 17 rfl (by kernel_rfl) (by kernel_rfl) (by kernel_rfl) rfl rfl rfl (fun M3 N3 w9 hle4 S9 => .inl (run_load1 rfl rfl Tryz.underlying3 rfl (S9.suf.boxc (i := 0) rfl rfl))) ?_
   refine waY_takeP (i := 3) (d := 20) 16 rfl (by kernel_rfl) (by kernel_rfl) (by kernel_rfl) rfl rfl rfl (fun w10 => run_fieldAddr rfl rfl Tryz.underlying90 rfl (ce3) (nf3)) ?_
   refine waY_take (i := 4) (d := 21) 15 rfl (by kernel_rfl) (by kernel_rfl) (by kernel_rfl) rfl rfl rfl (fun M5 N5 w11 hle6 S11 => .inl (run_load1 rfl rfl Tryz.underlying3 rfl (S11.suf.boxc (i := 2) rfl rfl))) ?_
   refine waY_takeP (i := 5) (d := 22) 14 rfl (by kernel_rfl) (by kernel_rfl) (by kernel_rfl) rfl rfl rfl (fun w12 => run_add rfl rfl rfl (by first | omega | (simp only [lens]; omega))) ?_
   refine waY_takeP (i := 6) (d := 23) 13 rfl (by kernel_rfl) (by kernel_rfl) (by kernel_rfl) rfl rfl rfl (fun w13 => run_fieldAddr rfl rfl Tryz.underlying90 rfl (ce3) (nf3)) ?_
   refine waY_take (i := 7) (d := 24) 12 rfl (by kernel_rfl) (by kernel_rfl) (by kernel_rfl) rfl rfl rfl (fun M8 N8 w14 hle9 S14 => .inl (run_load1 rfl rfl Tryz.underlying3 rfl (S14.suf.boxc (i := 0) rfl rfl))) ?_
   refine waY_takeP (i := 8) (d := 25) 11 rfl (by kernel_rfl) (by kernel_rfl) (by kernel_rfl) rfl rfl rfl (fun w15 => run_fieldAddr rfl rfl Tryz.underlying90 rfl (ce3) (nf3)) ?_
   refine waY_take (i := 9) (d := 26) 10 rfl (by kernel_rfl) (by kernel_rfl) (by kernel_rfl) rfl rfl rfl (fun M10 N10 w16 hle11 S16 => .inl (run_load1 rfl rfl Tryz.underlying3 rfl (S16.suf.boxc (i := 2) rfl rfl))) ?_
   refine waY_takeP (i := 10) (d := 27) 9 rfl (by kernel_rfl) (by kernel_rfl) (by kernel_rfl) rfl rfl rfl (fun w17 => run_add rfl rfl rfl (by first | omega | (simp only [lens]; omega))) ?_
   refine waY_take (i := 11) (d := 28) 8 rfl (by kernel_rfl) (by kernel_rfl) (by kernel_rfl) rfl rfl rfl (fun M12 N12 w18 hle13 S18 => .inl (run_build (l := [_, _]) rfl rfl st90 rfl rfl)) ?_
   refine waY_takeP (i := 13) (d := 30) 7 rfl (by kernel_rfl) (by kernel_rfl) (by kernel_rfl) rfl rfl rfl (fun w20 => run_move rfl rfl) ?_
   refine waY_takeP (i := 14) (d := 31) 6 rfl (by kernel_rfl) (by kernel_rfl) (by kernel_rfl) rfl rfl rfl (fun w22 => run_move rfl rfl) ?_
   refine waY_takeP (i := 15) (d := 32) 5 rfl (by kernel_rfl) (by kernel_rfl) (by kernel_rfl) rfl rfl rfl (fun w24 => run_mulW rfl rfl rfl) ?_
   refine waY_two (i := 12) (j := 17) 4 rfl rfl (by kernel_rfl) rfl rfl rfl rfl (fun w27 S27 => ?_) (fun w27 S27 => ?_)
   ·refine (wo_run rfl rfl (run_lookup (kc := (fun x => Value.agg (cdPw.f x).toArray)) (vc := (Value.int .i64)) (es := e2) (k := (⟨k1.x + q.x, k1.z + q.z⟩ : Pw)) (zv := 0) (i := 3) rfl rfl rfl Tryz.underlying85 mk90 zr3 S27 rfl) ?_)
    refine LeftWY.grow [] (Hp.le_refl _) S27 ?_; clear S27
    change WAY _ _ _ _ _ _ _ _ _ _ _ _ [_, _, _, _]
    refine waY_takeP (i := 16) (d := 33) 3 rfl (by kernel_rfl) (by kernel_rfl) (by kernel_rfl) rfl rfl rfl (fun w28 => run_addW rfl rfl rfl) ?_
    refine waY_only (i := 17) 2 rfl (by kernel_rfl) rfl rfl (fun w30 S30 => ?_)
    refine (wo_mapEntry (kc := (fun x => Value.agg (cdPw.f x).toArray)) (vc := (Value.int .i64)) (es := e2) (k := (⟨k1.x + q.x, k1.z + q.z⟩ : Pw)) (zv := 0) (i := 3) rfl rfl rfl S30 rfl rfl rfl Tryz.underlying85 mk90 zr3 ?_)
    intro sx1 w31 S31; clear S30
    change SH _ _ _ [_, _, _, Rs.mpS (fun x => Value.agg (cdPw.f x).toArray) (Value.int .i64) gw (mp (⟨k1.x + q.x, k1.z + q.z⟩ : Pw) ((mg (⟨k1.x + q.x, k1.z + q.z⟩ : Pw) e2).getD 0) e2) (⟨k1.x + q.x, k1.z + q.z⟩ : Pw) sx1] at S31
    refine LeftWY.turn (by kernel_rfl) S31 ?_; clear S31
    change WAY _ _ _ _ _ _ _ _ _ _ _ _ [_, _, _, _]
    refine waY_takeP (i := 18) (d := 35) 1 rfl (by kernel_rfl) (by kernel_rfl) (by kernel_rfl) rfl rfl rfl (fun w32 => run_extract rfl rfl rfl) ?_
    refine waY_only (i := 19) 0 rfl (by kernel_rfl) rfl rfl (fun w34 S34 => ?_)
    refine (wo_entryStore (kc := (fun x => Value.agg (cdPw.f x).toArray)) (vc := (Value.int .i64)) (es := (mp (⟨k1.x + q.x, k1.z + q.z⟩ : Pw) ((mg (⟨k1.x + q.x, k1.z + q.z⟩ : Pw) e2).getD 0) e2)) (k := (⟨k1.x + q.x, k1.z + q.z⟩ : Pw)) (e := (wr (((mg (⟨k1.x + q.x, k1.z + q.z⟩ : Pw) e2).getD 0) + (wr (v1 * c))))) (st := sx1) (i := 3) (H' := [_, _, _, _]) rfl rfl S34 rfl rfl rfl rfl rfl ?_)
    intro w35 S35; clear S34
    refine LeftWY.turn (by kernel_rfl) S35 ?_; clear S35
    change WAY _ _ _ _ _ _ _ _ _ _ _ _ [_, _, _, _]
    refine waY_end (by kernel_rfl) (fun w36 S36 => ?_)
    refine nm_blk (nm_lp ?_)
    intro ax_ hax_
    refine ⟨_, ?hq2m, ⟨sn1, dn ++ [(k1, v1)], l1_1 ++ l2_1, mp (⟨k1.x + q.x, k1.z + q.z⟩ : Pw) (wr (((mg (⟨k1.x + q.x, k1.z + q.z⟩ : Pw) e2).getD 0) + (wr (v1 * c)))) (mp (⟨k1.x + q.x, k1.z + q.z⟩ : Pw) ((mg (⟨k1.x + q.x, k1.z + q.z⟩ : Pw) e2).getD 0) e2), rfl, hax_.sub ⟨rfl, rfl, rfl, rfl, trivial⟩, S36.pick [1, 2, 3] [_, _, _] (by decide) ⟨rfl, rfl, rfl, trivial⟩, ?hq2f0, ?hq2f1, ?hq2f2, ?hq2f3⟩⟩
    case hq2f0 => assumption
    case hq2f1 => (refine List.Perm.trans ?_ hpm; simp only [*, List.append_assoc, List.cons_append, List.nil_append]; exact (List.perm_append_left_iff _).2 (List.perm_middle.symm))
    case hq2f2 => ((first | rw [mg_mp_self, mp_mp] | rw [mp_mp] | skip); exact (addP_step hB he (hBk _ hkb.1) hS).1)
    case hq2f3 => ((first | rw [mg_mp_self, mp_mp] | rw [mp_mp] | skip); exact (addP_step hB he (hBk _ hkb.1) hS).2)
    case hq2m => (simp only [*, List.length_append, List.length_cons]; omega)
   ·refine (wo_mapEntry (kc := (fun x => Value.agg (cdPw.f x).toArray)) (vc := (Value.int .i64)) (es := e2) (k := (⟨k1.x + q.x, k1.z + q.z⟩ : Pw)) (zv := 0) (i := 3) rfl rfl rfl S27 rfl rfl rfl Tryz.underlying85 mk90 zr3 ?_)
    intro sx2 w37 S37; clear S27
    change SH _ _ _ [_, _, _, Rs.mpS (fun x => Value.agg (cdPw.f x).toArray) (Value.int .i64) gw (mp (⟨k1.x + q.x, k1.z + q.z⟩ : Pw) ((mg (⟨k1.x + q.x, k1.z + q.z⟩ : Pw) e2).getD 0) e2) (⟨k1.x + q.x, k1.z + q.z⟩ : Pw) sx2] at S37
    refine LeftWY.turn (by kernel_rfl) S37 ?_; clear S37
    change WAY _ _ _ _ _ _ _ _ _ _ _ _ [_, _, _, _]
    refine waY_takeP (i := 18) (d := 35) 3 rfl (by kernel_rfl) (by kernel_rfl) (by kernel_rfl) rfl rfl rfl (fun w39 => run_extract rfl rfl rfl) ?_
    refine waY_only (i := 12) 2 rfl (by kernel_rfl) rfl rfl (fun w41 S41 => ?_)
    refine (wo_run rfl rfl (run_lookupS (kc := (fun x => Value.agg (cdPw.f x).toArray)) (vc := (Value.int .i64)) (es := (mp (⟨k1.x + q.x, k1.z + q.z⟩ : Pw) ((mg (⟨k1.x + q.x, k1.z + q.z⟩ : Pw) e2).getD 0) e2)) (k := (⟨k1.x + q.x, k1.z + q.z⟩ : Pw)) (zv := 0) (i := 3) rfl rfl rfl Tryz.underlying85 mk90 zr3 S41 rfl) ?_)
    refine LeftWY.grow [] (Hp.le_refl _) S41 ?_; clear S41
    change WAY _ _ _ _ _ _ _ _ _ _ _ _ [_, _, _, _]
    refine waY_takeP (i := 16) (d := 33) 1 rfl (by kernel_rfl) (by kernel_rfl) (by kernel_rfl) rfl rfl rfl (fun w42 => run_addW rfl rfl rfl) ?_
    refine waY_only (i := 19) 0 rfl (by kernel_rfl) rfl rfl (fun w44 S44 => ?_)
    refine (wo_entryStore (kc := (fun x => Value.agg (cdPw.f x).toArray)) (vc := (Value.int .i64)) (es := (mp (⟨k1.x + q.x, k1.z + q.z⟩ : Pw) ((mg (⟨k1.x + q.x, k1.z + q.z⟩ : Pw) e2).getD 0) e2)) (k := (⟨k1.x + q.x, k1.z + q.z⟩ : Pw)) (e := (wr (((mg (⟨k1.x + q.x, k1.z + q.z⟩ : Pw) (mp (⟨k1.x + q.x, k1.z + q.z⟩ : Pw) ((mg (⟨k1.x + q.x, k1.z + q.z⟩ : Pw) e2).getD 0) e2)).getD 0) + (wr (v1 * c))))) (st := sx2) (i := 3) (H' := [_, _, _, _]) rfl rfl S44 rfl rfl rfl rfl rfl ?_)
    intro w45 S45; clear S44
    refine LeftWY.turn (by kernel_rfl) S45 ?_; clear S45
    change WAY _ _ _ _ _ _ _ _ _ _ _ _ [_, _, _, _]
    refine waY_end (by kernel_rfl) (fun w46 S46 => ?_)
    refine nm_blk (nm_lp ?_)
    intro ax_ hax_
    refine ⟨_, ?hq3m, ⟨sn1, dn ++ [(k1, v1)], l1_1 ++ l2_1, mp (⟨k1.x + q.x, k1.z + q.z⟩ : Pw) (wr (((mg (⟨k1.x + q.x, k1.z + q.z⟩ : Pw) (mp (⟨k1.x + q.x, k1.z + q.z⟩ : Pw) ((mg (⟨k1.x + q.x, k1.z + q.z⟩ : Pw) e2).getD 0) e2)).getD 0) + (wr (v1 * c)))) (mp (⟨k1.x + q.x, k1.z + q.z⟩ : Pw) ((mg (⟨k1.x + q.x, k1.z + q.z⟩ : Pw) e2).getD 0) e2), rfl, hax_.sub ⟨rfl, rfl, rfl, rfl, trivial⟩, S46.pick [1, 2, 3] [_, _, _] (by decide) ⟨rfl, rfl, rfl, trivial⟩, ?hq3f0, ?hq3f1, ?hq3f2, ?hq3f3⟩⟩
    case hq3f0 => assumption
    case hq3f1 => (refine List.Perm.trans ?_ hpm; simp only [*, List.append_assoc, List.cons_append, List.nil_append]; exact (List.perm_append_left_iff _).2 (List.perm_middle.symm))
    case hq3f2 => ((first | rw [mg_mp_self, mp_mp] | rw [mp_mp] | skip); exact (addP_step hB he (hBk _ hkb.1) hS).1)
    case hq3f3 => ((first | rw [mg_mp_self, mp_mp] | rw [mp_mp] | skip); exact (addP_step hB he (hBk _ hkb.1) hS).2)
    case hq3m => (simp only [*, List.length_append, List.length_cons]; omega)
end Go.Proofs.YthppkofceancjaaGreat
namespace Go.Proofs.YthppkofceancjaaGreat
open Go.ChangeShapes Go.WideShapes Go.ChangeAt Go.RowKit
/-- A map at work that lasts, of a class. -/
def HmR (B : Nat) (p : Pol) (u : Value) (N : Hp) : Prop := ∃ g es, u = .map (some g) ∧ MpOk (fun x => Value.agg (cdPw.f x).toArray) (Value.int .i64) g es N ∧ EntP es B ∧ cE es = p
theorem rings0 (n : Int) : cE (mp (⟨0, 1 - n⟩ : Pw) 1 []) = cT (ringL 0) * mono (((0 : Nat) : Int) + 1 - n) 1 := by
 show mono (1000 * 0 + (1 - n)) 1 + Pol.o = (mono (1000 * 0 + 0) 1 + Pol.o) * _
 rw [Pol.add_zero, Pol.add_zero, mono_mul]
 exact mono_congr (congrArg wr (by omega)) rfl
theorem rings_step {eo e1 e2 : List (Pw × Int)} {j : Nat} {n : Int} (hS : cE eo = cT (ringL j) * mono ((j : Int) + 1 - n) 1) (h1 : cE e1 = cE [] + cE eo * mono (enc (⟨1, 0⟩ : Pw)) 1) (h2 : cE e2 = cE e1 + cE eo * mono (enc (⟨-1, 0⟩ : Pw)) (-1)) (hj : j + 1 ≤ 300) : cE e2 = cT (ringL (j + 1)) * mono (((j + 1 : Nat) : Int) + 1 - n) 1 := by
 rw [h2, h1, cE_nil, Pol.zero_add, hS, ringL_cT j hj]
 unfold ring1 enc
 rw [Pol.mul_assoc, Pol.mul_assoc, Pol.mul_assoc, mono_mul, mono_mul, Pol.add_mul, mono_mul, mono_mul, Pol.mul_add]
 congr 1
 ·exact congrArg _ (mono_congr (congrArg wr (by show (j : Int) + 1 - n + (1000 * 1 + 0) = _; omega)) rfl)
 ·exact congrArg _ (mono_congr (congrArg wr (by show (j : Int) + 1 - n + (1000 * (-1) + 0) = _; omega)) rfl)
theorem mono_one (p : Pol) : p * mono 0 1 = p := Pol.mul_one p
noncomputable def ringsH_n0 : Code := Tryz.f85.body.getD .skip
noncomputable def ringsH_n1 : Code := cL ringsH_n0
noncomputable def ringsH_n2 : Code := cR ringsH_n0
noncomputable def ringsH_n3 : Code := cL ringsH_n2
noncomputable def ringsH_n4 : Code := cR ringsH_n2
noncomputable def ringsH_n5 : Code := cL ringsH_n4
noncomputable def ringsH_n6 : Code := cR ringsH_n4
noncomputable def ringsH_n7 : Code := cL ringsH_n5
noncomputable def ringsH_n8 : Code := cR ringsH_n5
noncomputable def ringsH_n9 : Code := cL ringsH_n8
noncomputable def ringsH_n10 : Code := cL ringsH_n9
noncomputable def ringsH_n11 : Code := cL ringsH_n10
noncomputable def ringsH_n12 : Code := cR ringsH_n10
noncomputable def ringsH_n13 : Code := cL ringsH_n12
noncomputable def ringsH_n14 : Code := cR ringsH_n12
noncomputable def ringsH_n15 : Code := cL ringsH_n13
noncomputable def ringsH_n16 : Code := cR ringsH_n13
noncomputable def ringsH_n17 : Code := cL ringsH_n14
noncomputable def ringsH_n18 : Code := cR ringsH_n14
noncomputable def ringsH_n19 : Code := cL ringsH_n17
noncomputable def ringsH_n20 : Code := cL ringsH_n19
noncomputable def ringsH_n21 : Code := cR ringsH_n19
noncomputable def ringsH_n22 : Code := cL ringsH_n21
noncomputable def ringsH_n23 : Code := cR ringsH_n21
noncomputable def ringsH_n24 : Code := cL ringsH_n23
noncomputable def ringsH_n25 : Code := cR ringsH_n23
noncomputable def ringsH_n26 : Code := cL ringsH_n6
noncomputable def ringsH_n27 : Code := cR ringsH_n6
set_option maxHeartbeats 1000000 in
set_option maxRecDepth 10000 in
theorem ringsH_t {w : World} {M : Hp} {X : Fr} (n : Nat) (hn : 1 ≤ n ∧ n ≤ 150) (S : SH w M X []) : Ct Tryz.prog 85 [.int .i64 (n : Int)] w M X (HmR (2 * n) (cT (ringL (n - 1)))) := by
 unfold Ct
 refine calls_in (b := ringsH_n0) Tryz.func85 rfl Tryz.ntmps85 rfl (fun C hC => (ws_sub [(0, _)] ⟨rfl, trivial⟩ (ws_seqN ringsH_n1 ringsH_n2 rfl rfl rfl (ws_region rfl (wla 0 1 rfl rfl rfl rfl rfl rfl rfl (wl_end rfl (nmk [0] rfl (nm_thn (ws_seqN ringsH_n3 ringsH_n4 rfl rfl rfl ?_)))))))))
 refine ws_region rfl (wlo 0 1 rfl rfl rfl (wo_makeMap Pw Int (fun x => Value.agg (cdPw.f x).toArray) (Value.int .i64) rfl rfl rfl S ?_))
 intro gm1 w1 S1; clear S
 refine wlm 1 2 rfl rfl rfl rfl rfl rfl rfl (wlo 2 3 rfl rfl rfl (wo_run rfl rfl (run_sub rfl rfl rfl (by first | omega | (simp only [lens]; omega))) ?_))
 refine wlo 3 4 rfl rfl rfl (wo_run rfl rfl (run_build (l := [_, _]) rfl rfl st90 rfl rfl) (wlo 4 5 rfl rfl rfl (wo_mapUpdate (kc := (fun x => Value.agg (cdPw.f x).toArray)) (vc := Value.int .i64) (es := ([])) (k := (⟨0, 1 - (n : Int)⟩ : Pw)) (e := 1) (i := 0) (H' := [_]) (.inr rfl) rfl S1 rfl rfl rfl rfl Tryz.underlying85 mk90 rfl ?_)))
 intro w2 S2; clear S1
 refine wlm 5 6 rfl rfl rfl rfl rfl rfl rfl (wla 6 7 rfl rfl rfl rfl rfl rfl rfl (wl_end rfl (nmk [0, 3] rfl (nm_thn (ws_seqN ringsH_n5 ringsH_n6 rfl rfl rfl (ws_seqN ringsH_n7 ringsH_n8 rfl rfl rfl ?_))))))
 obtain ⟨M1, hle1, S3, hm1⟩ := S2.pubmap (i := 0) (H' := [_]) rfl rfl; clear S2
 refine ws_region rfl (wlm 0 1 rfl rfl rfl rfl rfl rfl rfl (wlo 1 2 rfl rfl rfl (wo_run rfl rfl (run_sub rfl rfl rfl (by first | omega | (simp only [lens]; omega))) ?_)))
 refine wlm 2 3 rfl rfl rfl rfl rfl rfl rfl (wl_end rfl (nmk [3, 11, 12] rfl (nm_thn (ws_blockN ringsH_n9 0 rfl rfl rfl ?_))))
 refine ws_loopE (fun mx_ ax_ wx_ => ∃ (j : Nat) (go : Nat) (eo : List (Pw × Int)) (M2 : Hp), M1.le M2 ∧ mx_ = n - j ∧ Env 26 [(3, .map (some go)), (11, .int .i64 ((n : Int) - 1)), (12, .int .i64 (j : Int))] ax_ ∧ SH wx_ M2 X [] ∧ j + 1 ≤ n ∧ MpOk (fun x => Value.agg (cdPw.f x).toArray) (Value.int .i64) go eo M2 ∧ EntP eo (n + j) ∧ cE eo = cT (ringL j) * mono ((j : Int) + 1 - (n : Int)) 1) rfl ?_ ?_
 ·intro ax_ hax_
  refine ⟨_, ⟨0, gm1, mp (⟨0, 1 - (n : Int)⟩ : Pw) 1 ([]), _, Hp.le_refl _, rfl, hax_.sub ⟨rfl, rfl, rfl, trivial⟩, S3.pick [] [] (by decide) trivial, ?hq1f0, ?hq1f1, ?hq1f2, ?hq1f3⟩⟩
  case hq1f0 => omega
  case hq1f1 => exact hm1
  case hq1f2 => exact (EntP.nil_ _).mp_ (by unfold PB; simp only; omega) (by decide)
  case hq1f3 => exact rings0 _
 ·rintro m2 a1 w3 ⟨j, go, eo, M2, hle2, rfl, he1, S4, hj, hmo, heo, hS⟩
  clear S3
  refine ws_in he1 (c := ringsH_n10) rfl ?_
  clear he1 a1
  replace hm1 := hm1.mono hle2
  refine ws_seqN ringsH_n11 ringsH_n12 rfl rfl rfl (ws_region rfl (wlo 0 1 rfl rfl rfl (wo_run rfl rfl (run_lss rfl rfl rfl) (wl_end rfl (nm_thn (ws_seqN ringsH_n13 ringsH_n14 rfl rfl rfl ?_))))))
  refine ws_condN ringsH_n15 ringsH_n16 rfl rfl rfl rfl (fun hb13 => ?_) (fun hb13 => ?_)
  ·replace hb13 := of_decide_eq_true hb13
   refine ws_skip rfl (nmk [3, 11, 12] rfl (nm_thn (ws_seqN ringsH_n17 ringsH_n18 rfl rfl rfl (ws_blockN ringsH_n19 1 rfl rfl rfl (ws_seqN ringsH_n20 ringsH_n21 rfl rfl rfl (ws_region rfl (wlo 0 1 rfl rfl rfl (wo_makeMap Pw Int (fun x => Value.agg (cdPw.f x).toArray) (Value.int .i64) rfl rfl rfl S4 ?_))))))))
   intro gm3 w4 S5; clear S4
   refine wla 1 2 rfl rfl rfl rfl rfl rfl rfl (wl_end rfl (nmk [3, 11, 12, 4] rfl (nm_thn (ws_seqN ringsH_n22 ringsH_n23 rfl rfl rfl (ws_region rfl (wlm 0 1 rfl rfl rfl rfl rfl rfl rfl (wlm 1 2 rfl rfl rfl rfl rfl rfl rfl (wlo 2 3 rfl rfl rfl (wo_run rfl rfl (run_build (l := [_, _]) rfl rfl st90 rfl rfl) ?_)))))))))
   have S6 := S5.pick [0] [_] (by decide) ⟨rfl, trivial⟩; clear S5
   have S7 : SH _ _ _ (Rs.bun [_] :: []) := SH.bunC (A := [_]) (B := []) S6; clear S6
   have S8 : SH _ _ _ [_] := S7.less (i := 0) rfl
   have hcall1 := addH_b ([]) eo (⟨1, 0⟩ : Pw) 1 hmo (B := (n + j + 1)) (C := (n + j)) (by omega) (EntP.nil_ _) heo (by decide) (by omega) (fun k hk => by unfold PB pAdd at *; simp only at *; omega) (S7.lend1 (i := 0) rfl); clear S8
   refine wlo 3 4 rfl rfl rfl (wo_c1 (i := 0) rfl rfl rfl rfl rfl rfl rfl cf89 S7 rfl hcall1 ?_)
   intro vw5 w5 M3 rw5 hle3 S9 hR1; clear S7
   obtain ⟨huhMX1, hMX1, hR2⟩ := hR1
   rw [hMX1] at S9
   clear hMX1
   subst huhMX1
   obtain ⟨e9_18, rfl, hE_18, hC_18⟩ := hR2
   replace S9 : SH _ _ _ (Rs.bun [_] :: []) := S9
   have S10 : SH _ _ _ [_] := SH.unbunC (A := [_]) (B := []) S9; clear S9
   refine wl_end rfl (nmk [3, 11, 12, 4] rfl (nm_thn (ws_seqN ringsH_n24 ringsH_n25 rfl rfl rfl (ws_region rfl (wlm 0 1 rfl rfl rfl rfl rfl rfl rfl (wlm 1 2 rfl rfl rfl rfl rfl rfl rfl (wlo 2 3 rfl rfl rfl (wo_run rfl rfl (run_build (l := [_, _]) rfl rfl st90 rfl rfl) ?_))))))))
   have S11 := S10.pick [0] [_] (by decide) ⟨rfl, trivial⟩; clear S10
   have S12 : SH _ _ _ (Rs.bun [_] :: []) := SH.bunC (A := [_]) (B := []) S11; clear S11
   have S13 : SH _ _ _ [_] := S12.less (i := 0) rfl
   have hcall2 := addH_b e9_18 eo (⟨(-1), 0⟩ : Pw) (-1) hmo (B := (n + j + 1)) (C := (n + j)) (by omega) hE_18 heo (by decide) (by omega) (fun k hk => by unfold PB pAdd at *; simp only at *; omega) (S12.lend1 (i := 0) rfl); clear S13
   refine wlo 3 4 rfl rfl rfl (wo_c1 (i := 0) rfl rfl rfl rfl rfl rfl rfl cf89 S12 rfl hcall2 ?_)
   intro vw6 w6 M4 rw6 hle4 S14 hR3; clear S12
   obtain ⟨huhMX2, hMX2, hR4⟩ := hR3
   rw [hMX2] at S14
   clear hMX2
   subst huhMX2
   obtain ⟨e9_22, rfl, hE_22, hC_22⟩ := hR4
   replace S14 : SH _ _ _ (Rs.bun [_] :: []) := S14
   have S15 : SH _ _ _ [_] := SH.unbunC (A := [_]) (B := []) S14; clear S14
   refine wl_end rfl (nmk [11, 12, 4] rfl (nm_thn (ws_region rfl (wlm 0 1 rfl rfl rfl rfl rfl rfl rfl (wla 1 2 rfl rfl rfl rfl rfl rfl rfl (wl_end rfl (nm_blk (nmk [11, 12, 3] rfl ?_))))))))
   refine nm_thn ?_
   obtain ⟨M5, hle5, S16, hm2⟩ := S15.pubmap (i := 0) (H' := [_]) rfl rfl; clear S15
   replace hm1 := hm1.mono hle5
   replace hmo := hmo.mono hle5
   refine ws_region rfl (wlo 0 1 rfl rfl rfl (wo_run rfl rfl (run_add rfl rfl rfl (by first | omega | (simp only [lens]; omega))) ?_))
   refine wlm 1 2 rfl rfl rfl rfl rfl rfl rfl (wl_end rfl (nm_lp ?_))
   intro ax_ hax_
   refine ⟨_, ?hq2m, ⟨j + 1, gm3, e9_22, _, (hle2.trans hle5), rfl, hax_.sub ⟨rfl, rfl, rfl, trivial⟩, S16.pick [] [] (by decide) trivial, ?hq2f0, ?hq2f1, ?hq2f2, ?hq2f3⟩⟩
   case hq2f0 => omega
   case hq2f1 => assumption
   case hq2f2 => exact hE_22.mono (by omega)
   case hq2f3 => exact rings_step hS hC_18 hC_22 (by omega)
   case hq2m => omega
  ·replace hb13 := of_decide_eq_false hb13
   refine ws_exit rfl rfl (nmk [3] rfl (nm_thn (ws_seqN ringsH_n26 ringsH_n27 rfl rfl rfl (ws_region rfl (wlm 0 1 rfl rfl rfl rfl rfl rfl rfl (wla 1 2 rfl rfl rfl rfl rfl rfl rfl (wl_end rfl (nmk [2] rfl ?_))))))))
   refine nm_thn (ws_ret hC [_] rfl rfl ⟨rfl, trivial⟩ ?_)
   refine ⟨_, rfl, _, hle1.trans hle2, (S4.pick [] [] (by decide) trivial), ?_⟩
   exact ⟨_, _, rfl, hmo, heo.mono (by omega), by rw [hS, show (j : Int) + 1 - (n : Int) = 0 by omega, mono_one, show n - 1 = j by omega]⟩
end Go.Proofs.YthppkofceancjaaGreat
