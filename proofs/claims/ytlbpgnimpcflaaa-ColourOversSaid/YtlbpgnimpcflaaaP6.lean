/- Walks printed by eng.py. -/
import Derived.Test.YtlbpgnimpcflaaaP5
set_option linter.unusedSimpArgs false
set_option linter.unusedVariables false
namespace Go.Proofs.Ytlbpgnimpcflaaa
open Go.ChangeShapes Go.WideShapes Go.ChangeAt Go.RowKit
/-! Labels that spread along edges: behind as many rounds as there are points, each point bears the least point of its class. -/
def roundG (e1 e2 : Nat → Nat) (ws : List Int) : Nat → List Int
  | 0 => ws
  | k + 1 => stepW (roundG e1 e2 ws k) (e1 k) (e2 k)
def cn (P : Nat → Bool) : Nat → Nat
  | 0 => 0
  | k + 1 => cn P k + (if P k = true then 1 else 0)
theorem cn_le (P : Nat → Bool) (k : Nat) : cn P k ≤ k := by
  induction k with
  | zero => exact Nat.le_refl _
  | succ k ih => rw [cn]; split <;> omega
theorem cn_mono {P Q : Nat → Bool} (k : Nat) (h : ∀ x, x < k → P x = true → Q x = true) : cn P k ≤ cn Q k := by
  induction k with
  | zero => exact Nat.le_refl _
  | succ k ih =>
    have := ih (fun x hx => h x (by omega))
    rw [cn, cn]
    by_cases hp : P k = true
    · rw [if_pos hp, if_pos (h k (by omega) hp)]; omega
    · rw [if_neg hp]; omega
theorem cn_lt {P Q : Nat → Bool} (k : Nat) (h : ∀ x, x < k → P x = true → Q x = true) {x : Nat} (hx : x < k) (hq : Q x = true) (hp : P x = false) : cn P k < cn Q k := by
  induction k with
  | zero => omega
  | succ k ih =>
    rw [cn, cn]
    by_cases e : x = k
    · subst e
      have := cn_mono x (P := P) (Q := Q) (fun y hy => h y (by omega))
      rw [if_pos hq, if_neg (by rw [hp]; exact Bool.false_ne_true)]; omega
    · have := ih (fun y hy => h y (by omega)) (by omega)
      by_cases hp' : P k = true
      · rw [if_pos hp', if_pos (h k (by omega) hp')]; omega
      · rw [if_neg hp']; omega
theorem cn_all {P : Nat → Bool} (k : Nat) (h : k ≤ cn P k) : ∀ x, x < k → P x = true := by
  induction k with
  | zero => intro x hx; omega
  | succ k ih =>
    rw [cn] at h
    have hl := cn_le P k
    by_cases hp : P k = true
    · intro x hx
      by_cases e : x = k
      · subst e; exact hp
      · rw [if_pos hp] at h; exact ih (by omega) x (by omega)
    · rw [if_neg hp] at h; omega
theorem least {P : Nat → Prop} (y : Nat) (h : P y) : ∃ z, P z ∧ ∀ u, P u → z ≤ u := by
  induction y using Nat.strongRecOn with
  | _ y ih =>
    by_cases hs : ∃ u, u < y ∧ P u
    · obtain ⟨u, hu, hp⟩ := hs
      exact ih u hu hp
    · exact ⟨y, h, fun u hu => by
        rcases Nat.lt_or_ge u y with h1 | h1
        · exact absurd ⟨u, h1, hu⟩ hs
        · exact h1⟩
/-- Labels lie in their class; m is the least of each class. -/
def LabOk (N : Nat) (cl : Nat → Nat) (ws : List Int) : Prop := ws.length = N ∧ ∀ x, x < N → ∃ z : Nat, z < N ∧ ga ws x = (z : Int) ∧ cl z = cl x
theorem stepW_ok {N : Nat} {cl : Nat → Nat} {ws : List Int} (h : LabOk N cl ws) {x y : Nat} (hx : x < N) (hy : y < N) (hc : cl x = cl y) : LabOk N cl (stepW ws x y) := by
  refine ⟨by rw [stepW_len]; exact h.1, fun z hz => ?_⟩
  have hl := h.1
  unfold stepW
  split
  · rw [ga_set _ _ _ _ (by omega)]
    split
    · rename_i e; subst e
      obtain ⟨u, h1, h2, h3⟩ := h.2 x hx
      exact ⟨u, h1, h2, h3.trans hc⟩
    · exact h.2 z hz
  · rw [ga_set _ _ _ _ (by omega)]
    split
    · rename_i e; subst e
      obtain ⟨u, h1, h2, h3⟩ := h.2 y hy
      exact ⟨u, h1, h2, h3.trans hc.symm⟩
    · exact h.2 z hz
/-- What a step does to those that have the least label. -/
theorem stepW_good {N : Nat} {cl : Nat → Nat} {m : Nat → Nat} (hm : ∀ x, x < N → ∀ y, y < N → cl y = cl x → m x ≤ y) (hmc : ∀ x y, x < N → y < N → cl x = cl y → m x = m y) {ws : List Int} (h : LabOk N cl ws) {x y : Nat} (hx : x < N) (hy : y < N) (hc : cl x = cl y) :
    (∀ z, z < N → ga ws z = (m z : Int) → ga (stepW ws x y) z = (m z : Int)) ∧ (ga ws x = (m x : Int) ∨ ga ws y = (m y : Int) → ga (stepW ws x y) x = (m x : Int) ∧ ga (stepW ws x y) y = (m y : Int)) := by
  have hl := h.1
  have hmm := hmc x y hx hy hc
  obtain ⟨u, u1, u2, u3⟩ := h.2 x hx
  obtain ⟨v, v1, v2, v3⟩ := h.2 y hy
  have b1 := hm x hx u u1 u3
  have b2 := hm y hy v v1 v3
  unfold stepW
  by_cases hlt : ga ws x < ga ws y
  · rw [if_pos hlt]
    simp only [ga_set _ _ _ _ (show y < ws.length by omega)]
    refine ⟨fun z hz hg => ?_, fun hg => ?_⟩
    · split
      · rename_i e; subst e; omega
      · exact hg
    · simp only [if_true, ite_self]
      have e0 : ga ws x = (m x : Int) := by rcases hg with hg | hg <;> omega
      omega
  · rw [if_neg hlt]
    simp only [ga_set _ _ _ _ (show x < ws.length by omega)]
    refine ⟨fun z hz hg => ?_, fun hg => ?_⟩
    · split
      · rename_i e; subst e; omega
      · exact hg
    · simp only [if_true, ite_self]
      have e0 : ga ws y = (m y : Int) := by rcases hg with hg | hg <;> omega
      omega
theorem labels {N K : Nat} (e1 e2 : Nat → Nat) (he : ∀ k, k < K → e1 k < N ∧ e2 k < N) (cl : Nat → Nat) (hin : ∀ k, k < K → cl (e1 k) = cl (e2 k))
    (hcon : ∀ Z : Nat → Prop, (∀ k, k < K → (Z (e1 k) ↔ Z (e2 k))) → ∀ x y, x < N → y < N → cl x = cl y → Z x → Z y)
    (ws : Nat → List Int) (hlen : (ws 0).length = N) (h0 : ∀ x : Nat, x < N → ga (ws 0) x = (x : Int)) (hs : ∀ j, ws (j + 1) = roundG e1 e2 (ws j) K) :
    ∀ x, x < N → ∃ z : Nat, z < N ∧ ga (ws N) x = (z : Int) ∧ cl z = cl x ∧ ∀ y, y < N → cl y = cl x → z ≤ y := by
  have hex : ∀ x : Nat, ∃ z : Nat, x < N → (z < N ∧ cl z = cl x) ∧ ∀ u, u < N ∧ cl u = cl x → z ≤ u := fun x => by
    by_cases hx : x < N
    · obtain ⟨z, h1, h2⟩ := least (P := fun z => z < N ∧ cl z = cl x) x ⟨hx, rfl⟩
      exact ⟨z, fun _ => ⟨h1, h2⟩⟩
    · exact ⟨0, fun h => absurd h hx⟩
  obtain ⟨m, hm0⟩ := Classical.axiomOfChoice hex
  have hm : ∀ x, x < N → ∀ y, y < N → cl y = cl x → m x ≤ y := fun x hx y hy e => (hm0 x hx).2 y ⟨hy, e⟩
  have hmc : ∀ x y, x < N → y < N → cl x = cl y → m x = m y := fun x y hx hy e => by
    have h1 := hm0 x hx
    have h2 := hm0 y hy
    have := h1.2 (m y) ⟨h2.1.1, h2.1.2.trans e.symm⟩
    have := h2.2 (m x) ⟨h1.1.1, h1.1.2.trans e⟩
    omega
  have hround : ∀ w, LabOk N cl w → ∀ k, k ≤ K → LabOk N cl (roundG e1 e2 w k) ∧ (∀ z, z < N → ga w z = (m z : Int) → ga (roundG e1 e2 w k) z = (m z : Int)) ∧
      ∀ j, j < k → (ga w (e1 j) = (m (e1 j) : Int) ∨ ga w (e2 j) = (m (e2 j) : Int)) → ga (roundG e1 e2 w k) (e1 j) = (m (e1 j) : Int) ∧ ga (roundG e1 e2 w k) (e2 j) = (m (e2 j) : Int) := fun w hw k => by
    induction k with
    | zero => exact fun _ => ⟨hw, fun z _ h => h, fun j hj => by omega⟩
    | succ k ih =>
      intro hk
      obtain ⟨a1, a2, a3⟩ := ih (by omega)
      obtain ⟨p1, p2⟩ := he k (by omega)
      have hc := hin k (by omega)
      obtain ⟨g1, g2⟩ := stepW_good hm hmc a1 p1 p2 hc
      refine ⟨stepW_ok a1 p1 p2 hc, fun z hz h => g1 z hz (a2 z hz h), fun j hj hg => ?_⟩
      obtain ⟨q1, q2⟩ := he j (by omega)
      by_cases e : j = k
      · subst e
        exact g2 (hg.elim (fun h => .inl (a2 _ q1 h)) (fun h => .inr (a2 _ q2 h)))
      · obtain ⟨r1, r2⟩ := a3 j (by omega) hg
        exact ⟨g1 _ q1 r1, g1 _ q2 r2⟩
  have hok : ∀ j, LabOk N cl (ws j) := fun j => by
    induction j with
    | zero => exact ⟨hlen, fun x hx => ⟨x, hx, h0 x hx, rfl⟩⟩
    | succ j ih => rw [hs]; exact (hround _ ih K (Nat.le_refl _)).1
  have hpers : ∀ j z, z < N → ga (ws j) z = (m z : Int) → ga (ws (j + 1)) z = (m z : Int) := fun j z hz h => by rw [hs]; exact (hround _ (hok j) K (Nat.le_refl _)).2.1 z hz h
  have hroot : ∀ j x, x < N → ga (ws j) (m x) = (m (m x) : Int) := fun j x hx => by
    have h1 := (hm0 x hx).1
    have e : m (m x) = m x := hmc _ _ h1.1 hx h1.2
    induction j with
    | zero => rw [h0 _ h1.1, e]
    | succ j ih => exact hpers j _ h1.1 ih
  have hgrow : ∀ j, (∀ x, x < N → ga (ws j) x = (m x : Int)) ∨ j ≤ cn (fun x => decide (ga (ws j) x = (m x : Int))) N := fun j => by
    induction j with
    | zero => exact .inr (Nat.zero_le _)
    | succ j ih =>
      rcases ih with ih | ih
      · exact .inl fun x hx => hpers j x hx (ih x hx)
      · by_cases hnew : ∃ x, x < N ∧ ga (ws (j + 1)) x = (m x : Int) ∧ ga (ws j) x ≠ (m x : Int)
        · obtain ⟨x, hx, h1, h2⟩ := hnew
          right
          have := cn_lt (P := fun x => decide (ga (ws j) x = (m x : Int))) (Q := fun x => decide (ga (ws (j + 1)) x = (m x : Int))) N (fun z hz h => decide_eq_true (hpers j z hz (of_decide_eq_true h))) hx (decide_eq_true h1) (decide_eq_false h2)
          omega
        · left
          have hsame : ∀ x, x < N → ga (ws (j + 1)) x = (m x : Int) → ga (ws j) x = (m x : Int) := fun x hx h => Classical.byContradiction fun h' => hnew ⟨x, hx, h, h'⟩
          have hcl := hcon (fun x => ga (ws j) x = (m x : Int)) (fun k hk => by
            obtain ⟨q1, q2⟩ := he k hk
            have h3 := (hround _ (hok j) K (Nat.le_refl _)).2.2 k hk
            rw [← hs] at h3
            exact ⟨fun h => hsame _ q2 (h3 (.inl h)).2, fun h => hsame _ q1 (h3 (.inr h)).1⟩)
          intro x hx
          have h1 := (hm0 x hx).1
          exact hpers j x hx (hcl (m x) x h1.1 hx h1.2 (hroot j x hx))
  intro x hx
  have hall : ga (ws N) x = (m x : Int) := by
    rcases hgrow N with h | h
    · exact h x hx
    · exact of_decide_eq_true (cn_all N h x hx)
  have h1 := hm0 x hx
  exact ⟨m x, h1.1.1, hall, h1.1.2, fun y hy e => h1.2 y ⟨hy, e⟩⟩

end Go.Proofs.Ytlbpgnimpcflaaa
