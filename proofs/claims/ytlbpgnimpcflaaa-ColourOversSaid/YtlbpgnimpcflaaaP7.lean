/- Walks printed by eng.py. -/
import Derived.Test.YtlbpgnimpcflaaaP6
set_option linter.unusedSimpArgs false
set_option linter.unusedVariables false
namespace Go.Proofs.Ytlbpgnimpcflaaa
open Go.ChangeShapes Go.WideShapes Go.ChangeAt Go.RowKit
/-! The labels of the pieces tell the pieces; planar by labels is planar by pieces. -/
theorem edge_nb {d : Dg} (h : arcsB d = true) {x s : Nat} (hx : x < d.crs.length) (hs : s < 4) : ∃ k, k < 2 * d.crs.length ∧ ((endC d k false = x ∧ endC d k true = nbC d x s) ∨ (endC d k true = x ∧ endC d k false = nbC d x s)) := by
  have ha := arcAt_bd h hx hs
  have e : (((arcAt d x s).toNat - 1 + 1 : Nat) : Int) = arcAt d x s := by omega
  refine ⟨(arcAt d x s).toNat - 1, by omega, ?_⟩
  unfold endC nbC
  rw [e]
  cases hb : entryB d x s
  · right
    exact ⟨by rw [endOf_back h hx hs (b := true) hb], rfl⟩
  · left
    exact ⟨by rw [endOf_back h hx hs (b := false) hb], rfl⟩
theorem nb_edge {d : Dg} (h : arcsB d = true) {k : Nat} (hk : k < 2 * d.crs.length) : ∃ s, s < 4 ∧ nbC d (endC d k false) s = endC d k true := by
  have ha : 1 ≤ ((k + 1 : Nat) : Int) ∧ ((k + 1 : Nat) : Int) ≤ 2 * (d.crs.length : Int) := by omega
  obtain ⟨_, h2, _⟩ := endD h ha false
  obtain ⟨h3, h4⟩ := endOf_there h ha false
  refine ⟨(endOf d ((k + 1 : Nat) : Int) false).2, h2, ?_⟩
  unfold nbC endC
  rw [h3, h4]
  rfl
theorem pcI_nb {d : Dg} (h : arcsB d = true) {x s : Nat} (hx : x < d.crs.length) (hs : s < 4) : pcI d (nbC d x s) = pcI d x := by
  obtain ⟨h1, h2, _⟩ := pcI_lt h hx
  exact (pcI_at h h1 ((pcs h).clo _ h1 _ h2 s hs)).2
theorem iniW_ga (n k : Nat) (hk : k ≤ n) (x : Nat) (hx : x < k) : ga (iniW n k) x = (x : Int) := by
  induction k with
  | zero => omega
  | succ k ih =>
    rw [iniW, ga_set _ _ _ _ (by rw [iniW_len]; omega)]
    split
    · rename_i e; subst e; rfl
    · exact ih (by omega) (by omega)
theorem roundG_W (d : Dg) (ws : List Int) (k : Nat) : roundW d ws k = roundG (fun j => endC d j false) (fun j => endC d j true) ws k := by
  induction k with
  | zero => rfl
  | succ k ih => rw [roundW, roundG, ih]
theorem rc_lt {d : Dg} (h : arcsB d = true) {x y : Nat} (hr : Rc d x y) (hx : x < d.crs.length) : y < d.crs.length := by
  induction hr with
  | refl => exact hx
  | step _ hk ih => exact nbC_lt h ih hk
theorem pieces_join {d : Dg} (h : arcsB d = true) (Z : Nat → Prop) (hZ : ∀ x s, x < d.crs.length → s < 4 → (Z x ↔ Z (nbC d x s))) {x y : Nat} (hx : x < d.crs.length) (hy : y < d.crs.length) (e : pcI d x = pcI d y) : Z x → Z y := by
  have hrc : ∀ c z, c < d.crs.length → Rc d c z → (Z c ↔ Z z) := fun c z hc hr => by
    induction hr with
    | refl => exact Iff.rfl
    | step hr' hk ih => exact ih.trans (hZ _ _ (rc_lt h hr' hc) hk)
  obtain ⟨h1, h2, _⟩ := pcI_lt h hx
  obtain ⟨_, h2', _⟩ := pcI_lt h hy
  rw [← e] at h2'
  obtain ⟨_, c0, hc0, _, hel⟩ := (pcs h).el _ h1
  obtain ⟨u, eu, _, ru⟩ := hel _ h2
  obtain ⟨v, ev, _, rv⟩ := hel _ h2'
  obtain rfl : x = u := by omega
  obtain rfl : y = v := by omega
  exact fun hz => (hrc _ _ hc0 rv).1 ((hrc _ _ hc0 ru).2 hz)
/-- Each crossing's label is the least crossing of its piece. -/
theorem whoL_law {d : Dg} (h : arcsB d = true) : ∀ x, x < d.crs.length → ∃ z : Nat, z < d.crs.length ∧ ga (whoL d) x = (z : Int) ∧ pcI d z = pcI d x ∧ ∀ y, y < d.crs.length → pcI d y = pcI d x → z ≤ y :=
  labels (N := d.crs.length) (K := 2 * d.crs.length) (fun j => endC d j false) (fun j => endC d j true) (fun k hk => ⟨endC_lt h hk false, endC_lt h hk true⟩) (pcI d)
    (fun k hk => by
      obtain ⟨s, hs, e⟩ := nb_edge h hk
      rw [← e, pcI_nb h (endC_lt h hk false) hs])
    (fun Z hZ x y hx hy e => pieces_join h Z (fun u s hu hs => by
      obtain ⟨k, hk, hh⟩ := edge_nb h hu hs
      have := hZ k hk
      rcases hh with ⟨h1, h2⟩ | ⟨h1, h2⟩
      · rw [h1, h2] at this; exact this
      · rw [h1, h2] at this; exact this.symm) hx hy e)
    (rndsW d) (rndsW_len d 0) (fun x hx => iniW_ga _ _ (Nat.le_refl _) x hx) (fun j => by rw [rndsW, roundG_W])
theorem who_root {d : Dg} (h : arcsB d = true) {x z : Nat} (hx : x < d.crs.length) (hz : ga (whoL d) x = (z : Int)) : z < d.crs.length ∧ pcI d z = pcI d x ∧ ga (whoL d) z = (z : Int) := by
  obtain ⟨u, h1, h2, h3, h4⟩ := whoL_law h x hx
  obtain rfl : z = u := by omega
  obtain ⟨v, g1, g2, g3, g4⟩ := whoL_law h z h1
  have a1 := g4 z h1 rfl
  have a2 := h4 v g1 (g3.trans h3)
  obtain rfl : v = z := by omega
  exact ⟨h1, h3, g2⟩
theorem who_iff {d : Dg} (h : arcsB d = true) {p : Nat} (hp : p < d.crs.length) (hr : ga (whoL d) p = (p : Int)) {x : Nat} (hx : x < d.crs.length) : ga (whoL d) x = (p : Int) ↔ pcI d x = pcI d p := by
  constructor
  · intro e
    exact (who_root h hx e).2.1.symm
  · intro e
    obtain ⟨u, h1, h2, h3, h4⟩ := whoL_law h x hx
    obtain ⟨v, g1, g2, g3, g4⟩ := whoL_law h p hp
    obtain rfl : v = p := by omega
    have a1 := h4 v hp e.symm
    have a2 := g4 u h1 (h3.trans e)
    rw [h2]
    omega
theorem cn_congr {P Q : Nat → Bool} (k : Nat) (h : ∀ x, x < k → P x = Q x) : cn P k = cn Q k := by
  induction k with
  | zero => rfl
  | succ k ih => rw [cn, cn, ih (fun x hx => h x (by omega)), h k (by omega)]
theorem cn_filter (P : Nat → Bool) (k : Nat) : cn P k = ((List.range k).filter P).length := by
  induction k with
  | zero => rfl
  | succ k ih =>
    rw [cn, ih, List.range_succ, List.filter_append, List.length_append]
    by_cases hp : P k = true <;> simp [hp]
theorem negW_cn (ws : List Int) (p : Int) (k : Nat) : negW ws p k = -(cn (fun x => decide (ga ws x = p)) k : Int) := by
  induction k with
  | zero => rfl
  | succ k ih =>
    rw [negW, cn, ih]
    by_cases e : ga ws k = p
    · rw [if_pos e, if_pos (decide_eq_true e)]; omega
    · rw [if_neg e, if_neg (by simpa using e)]; omega
theorem facW_cn (d : Dg) (ws : List Int) (p m : Int) (k : Nat) : facW d ws p m k = m + (cn (fun x => decide (ga ws (fcC d x) = p)) k : Int) := by
  induction k with
  | zero => rw [facW, cn]; omega
  | succ k ih =>
    rw [facW, cn, ih]
    by_cases e : ga ws (fcC d k) = p
    · rw [if_pos e, if_pos (decide_eq_true e)]; omega
    · rw [if_neg e, if_neg (by simpa using e)]; omega
theorem fcN_cn (d : Dg) (i : Nat) (hi : i < (pcsL d).length) (k : Nat) : ga (fcN d k) i = (cn (fun x => decide (pcI d (fcC d x) = i)) k : Int) := by
  induction k with
  | zero => rw [fcN, ga_rep _ _ _ hi]; rfl
  | succ k ih =>
    rw [fcN, cn]
    by_cases e : pcI d (fcC d k) = i
    · rw [if_pos (decide_eq_true e), e, ga_set _ _ _ _ (by rw [fcN_len]; exact hi), if_pos rfl, ih]; omega
    · rw [if_neg (by simpa using e), ga_set_ne _ _ _ _ e, ih]; omega
theorem piece_cn {d : Dg} (h : arcsB d = true) {i : Nat} (hi : i < (pcsL d).length) : (ga (pcsL d) i).length = cn (fun x => decide (pcI d x = i)) d.crs.length := by
  rw [cn_filter]
  obtain ⟨h1, c0, _, _, h2⟩ := (pcs h).el i hi
  have hn : ((List.range d.crs.length).filter (fun x => decide (pcI d x = i))).Nodup := List.Nodup.sublist (List.filter_sublist) List.nodup_range
  apply Nat.le_antisymm
  · have h3 := nodup_le (ys := ((List.range d.crs.length).filter (fun x => decide (pcI d x = i))).map fun x : Nat => (x : Int)) h1 (fun y hy => by
      obtain ⟨z, rfl, hz, _⟩ := h2 y hy
      exact List.mem_map.2 ⟨z, List.mem_filter.2 ⟨List.mem_range.2 hz, decide_eq_true (pcI_at h hi hy).2⟩, rfl⟩)
    rw [List.length_map] at h3
    exact h3
  · have hn' : (((List.range d.crs.length).filter (fun x => decide (pcI d x = i))).map fun x : Nat => (x : Int)).Nodup := by
      rw [List.nodup_iff_pairwise_ne, List.pairwise_map]
      exact List.Pairwise.imp (fun hab e => hab (by omega)) hn
    have h3 := nodup_le (ys := ga (pcsL d) i) hn' (fun y hy => by
      obtain ⟨z, hz, rfl⟩ := List.mem_map.1 hy
      obtain ⟨hz1, hz2⟩ := List.mem_filter.1 hz
      obtain ⟨_, g2, _⟩ := pcI_lt h (List.mem_range.1 hz1)
      rw [of_decide_eq_true hz2] at g2
      exact g2)
    rw [List.length_map] at h3
    exact h3
theorem root_count {d : Dg} (h : arcsB d = true) {p : Nat} (hp : p < d.crs.length) (hr : ga (whoL d) p = (p : Int)) : pcI d p < (pcsL d).length ∧
    (facW d (whoL d) p (negW (whoL d) p d.crs.length) (facesL d).length = 2 ↔ ga (fcN d (facesL d).length) (pcI d p) = ((ga (pcsL d) (pcI d p)).length : Int) + 2) := by
  obtain ⟨h1, _, _⟩ := pcI_lt h hp
  refine ⟨h1, ?_⟩
  rw [facW_cn, negW_cn, fcN_cn d _ h1, piece_cn h h1]
  have e1 : cn (fun x => decide (ga (whoL d) x = (p : Int))) d.crs.length = cn (fun x => decide (pcI d x = pcI d p)) d.crs.length := cn_congr _ fun x hx => decide_eq_decide.2 (who_iff h hp hr hx)
  have e2 : cn (fun x => decide (ga (whoL d) (fcC d x) = (p : Int))) (facesL d).length = cn (fun x => decide (pcI d (fcC d x) = pcI d p)) (facesL d).length := cn_congr _ fun x hx => decide_eq_decide.2 (who_iff h hp hr (fcC_lt h hx))
  rw [e1, e2]
  omega
theorem planar_law {d : Dg} (h : arcsB d = true) : planIs d = planP d := by
  rw [Bool.eq_iff_iff]
  constructor
  · intro hp
    apply planP_t
    intro i hi
    obtain ⟨_, c0, hc0, hm, _⟩ := (pcs h).el i hi
    have e0 := (pcI_at h hi hm).2
    obtain ⟨z, _, hz, _⟩ := whoL_law h c0 hc0
    obtain ⟨r1, r2, r3⟩ := who_root h hc0 hz
    have hq := List.all_eq_true.1 hp z (List.mem_range.2 r1)
    unfold rootOk at hq
    rw [Bool.or_eq_true] at hq
    rcases hq with hq | hq
    · exact absurd r3 (of_decide_eq_true hq)
    · have := (root_count h r1 r3).2.1 (of_decide_eq_true hq)
      rw [r2, e0] at this
      exact this
  · intro hp
    apply planIs_t
    intro p hpn
    unfold rootOk
    rw [Bool.or_eq_true]
    by_cases hr : ga (whoL d) p = (p : Int)
    · right
      obtain ⟨h1, h2⟩ := root_count h hpn hr
      have hq := List.all_eq_true.1 hp _ (List.mem_range.2 h1)
      exact decide_eq_true (h2.2 (of_decide_eq_true hq))
    · left
      exact decide_eq_true hr

end Go.Proofs.Ytlbpgnimpcflaaa
