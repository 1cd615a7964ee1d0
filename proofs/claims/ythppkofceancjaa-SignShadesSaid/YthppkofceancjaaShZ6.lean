/- Part 6 of the proof of the law SignShades: the walks through its functions and the plain laws that they need. -/
import Derived.Test.YthppkofceancjaaShZ5
import Derived.OrdersIn
set_option linter.unusedSimpArgs false
set_option linter.unusedVariables false
namespace Go.Proofs.Ythppkofceancjaa
open Go.RowKit
/-- A plane diagram of one piece. -/
structure OkS (d : Dg) : Prop where
  ab : arcsB d = true
  one : (pcsL d).length = 1
  pl : planP d = true
theorem OkS.mp {d : Dg} (h : OkS d) : Mp4 d.crs.length (enJ d false) (enJ d true) (fun j => (arcJ d j).toNat - 1) (fcJ d) := (mp4_of h.ab h.one h.pl).1
theorem OkS.fn {d : Dg} (h : OkS d) : (fcsC d).length = d.crs.length + 2 := (mp4_of h.ab h.one h.pl).2
theorem OkS.pos {d : Dg} (h : OkS d) : 0 < d.crs.length := one_iff0 h.ab h.one
def ColOk (d : Dg) (col : Nat → Bool) : Prop := col 0 = false ∧ ∀ j, j < 4 * d.crs.length → col (fcJ d j) ≠ col (fcJ d (prJ j))
theorem col_ex {d : Dg} (h : OkS d) : ∃ col, ColOk d col := by
  obtain ⟨c, hc⟩ := h.mp.two h.pos
  cases h0 : c 0 with
  | false => exact ⟨c, h0, hc⟩
  | true => exact ⟨fun i => !c i, by simp [h0], fun j hj e => hc j hj (by simpa using e)⟩
noncomputable def colD (d : Dg) : Nat → Bool := @dite _ (∃ col, ColOk d col) (Classical.propDecidable _) (fun h => Classical.choose h) (fun _ _ => false)
theorem colD_ok {d : Dg} (h : OkS d) : ColOk d (colD d) := by
  have he := col_ex h
  unfold colD
  rw [dif_pos he]
  exact Classical.choose_spec he
/-- The shade of a face. -/
noncomputable def shv (d : Dg) (i : Nat) : Int := if colD d i = true then 1 else 0
theorem shv_bd (d : Dg) (i : Nat) : 0 ≤ shv d i ∧ shv d i ≤ 1 := by unfold shv; split <;> omega
theorem shv_zero {d : Dg} (h : OkS d) : shv d 0 = 0 := by unfold shv; rw [(colD_ok h).1, if_neg Bool.false_ne_true]
theorem shv_pr {d : Dg} (h : OkS d) {j : Nat} (hj : j < 4 * d.crs.length) : shv d (fcJ d (prJ j)) = 1 - shv d (fcJ d j) := by
  have := (colD_ok h).2 j hj
  unfold shv
  cases e1 : colD d (fcJ d j) <;> cases e2 : colD d (fcJ d (prJ j)) <;> simp_all
noncomputable def shL (d : Dg) : List Int := (List.range (fcsC d).length).map (shv d)
theorem shL_len (d : Dg) : (shL d).length = (fcsC d).length := by simp [shL]
theorem shL_ga {d : Dg} {i : Nat} (h : i < (fcsC d).length) : ga (shL d) i = shv d i := by
  rw [ga_eq (by rw [shL_len]; exact h)]; simp [shL]
/-- Some faces bear their shades. -/
def PartC (d : Dg) (sh : List Int) : Prop := sh.length = (fcsC d).length ∧ ga sh 0 = 0 ∧ ∀ i, i < (fcsC d).length → ga sh i = -1 ∨ ga sh i = shv d i
/-- Two faces with an arc between them. -/
def AdjF (d : Dg) (x y : Nat) : Prop := ∃ j, j < 4 * d.crs.length ∧ ((x = fcJ d j ∧ y = fcJ d (prJ j)) ∨ (x = fcJ d (prJ j) ∧ y = fcJ d j))
theorem prJ_lt {n j : Nat} (h : j < 4 * n) : prJ j < 4 * n := by unfold prJ; omega
theorem fcJ_lt {d : Dg} (h : OkS d) {j : Nat} (hj : j < 4 * d.crs.length) : fcJ d j < (fcsC d).length := by rw [h.fn]; exact h.mp.fl j hj
theorem AdjF.symm {d : Dg} {x y : Nat} (h : AdjF d x y) : AdjF d y x := by
  obtain ⟨j, hj, h | h⟩ := h
  · exact ⟨j, hj, .inr ⟨h.2, h.1⟩⟩
  · exact ⟨j, hj, .inl ⟨h.2, h.1⟩⟩
theorem AdjF.ok {d : Dg} (h : OkS d) {x y : Nat} (ha : AdjF d x y) : x < (fcsC d).length ∧ y < (fcsC d).length ∧ shv d y = 1 - shv d x := by
  obtain ⟨j, hj, ⟨rfl, rfl⟩ | ⟨rfl, rfl⟩⟩ := ha
  · exact ⟨fcJ_lt h hj, fcJ_lt h (prJ_lt hj), shv_pr h hj⟩
  · refine ⟨fcJ_lt h (prJ_lt hj), fcJ_lt h hj, ?_⟩
    have := shv_pr h hj
    omega
def dnB (sh : List Int) (i : Nat) : Bool := decide (0 ≤ ga sh i)
theorem part_bd {d : Dg} {sh : List Int} (hp : PartC d sh) {i : Nat} (hi : i < (fcsC d).length) : -1 ≤ ga sh i ∧ ga sh i ≤ 1 := by
  have := shv_bd d i
  rcases hp.2.2 i hi with e | e <;> omega
theorem part_all {d : Dg} (h : OkS d) {sh : List Int} (hp : PartC d sh) (hc : ∀ x y, AdjF d x y → 0 ≤ ga sh x → 0 ≤ ga sh y) : sh = shL d := by
  have hall : ∀ i, i < d.crs.length + 2 → 0 ≤ ga sh i := fun i hi => h.mp.hang (fun i => 0 ≤ ga sh i) (fun j hj => ⟨hc _ _ ⟨j, hj, .inl ⟨rfl, rfl⟩⟩, hc _ _ ⟨j, hj, .inr ⟨rfl, rfl⟩⟩⟩) 0 i (by omega) hi (by have := hp.2.1; omega)
  refine ga_ext (by rw [hp.1, shL_len]) fun i hi => ?_
  rw [hp.1] at hi
  rw [shL_ga hi]
  have h1 := hall i (by rw [← h.fn]; exact hi)
  rcases hp.2.2 i hi with e | e
  · omega
  · exact e
theorem part_set {d : Dg} (h : OkS d) {sh : List Int} (hp : PartC d sh) {x y : Nat} (ha : AdjF d x y) (hx : 0 ≤ ga sh x) : PartC d (sh.set y (1 - ga sh x)) ∧ (∀ i, i < (fcsC d).length → 0 ≤ ga sh i → 0 ≤ ga (sh.set y (1 - ga sh x)) i) ∧ 0 ≤ ga (sh.set y (1 - ga sh x)) y := by
  obtain ⟨h1, h2, h3⟩ := ha.ok h
  have hl := hp.1
  have ex : ga sh x = shv d x := by
    have := hp.2.2 x h1
    omega
  have hb := shv_bd d y
  have e0 := hp.2.1
  refine ⟨⟨by rw [List.length_set]; exact hl, ?_, fun i hi => ?_⟩, fun i hi h0 => ?_, ?_⟩
  · rw [ga_set _ _ _ _ (by omega)]
    split
    · rename_i e; subst e
      have := shv_zero h
      omega
    · exact e0
  · rw [ga_set _ _ _ _ (by omega)]
    split
    · rename_i e; subst e
      right; omega
    · exact hp.2.2 i hi
  · rw [ga_set _ _ _ _ (by omega)]
    split
    · omega
    · exact h0
  · rw [ga_set _ _ _ _ (by omega), if_pos rfl]; omega
/-- How many faces have no shade yet. -/
def unc (d : Dg) (sh : List Int) : Nat := cn (fun i => decide (ga sh i < 0)) (fcsC d).length
theorem unc_set {d : Dg} (h : OkS d) {sh : List Int} (hp : PartC d sh) {x y : Nat} (ha : AdjF d x y) (hx : 0 ≤ ga sh x) (hy : ga sh y < 0) : unc d (sh.set y (1 - ga sh x)) + 1 = unc d sh := by
  obtain ⟨h1, h2, h3⟩ := ha.ok h
  have hl := hp.1
  have hb := part_bd hp h1
  refine cn_less h2 (decide_eq_true hy) (decide_eq_false ?_) fun i hi hne => ?_
  · rw [ga_set _ _ _ _ (by omega), if_pos rfl]; omega
  · rw [ga_set _ _ _ _ (by omega), if_neg (fun e => hne e.symm)]
def nxJ (j : Nat) : Nat := 4 * (j / 4) + (j % 4 + 1) % 4
theorem prJ_nxJ (j : Nat) : prJ (nxJ j) = j := by unfold prJ nxJ; omega
theorem nxJ_lt {n j : Nat} (h : j < 4 * n) : nxJ j < 4 * n := by unfold nxJ; omega
theorem adj_nx {d : Dg} {j : Nat} (hj : j < 4 * d.crs.length) : AdjF d (fcJ d j) (fcJ d (nxJ j)) := ⟨nxJ j, nxJ_lt hj, .inr ⟨by rw [prJ_nxJ], rfl⟩⟩
def stA (sh : List Int) (x y : Nat) : List Int := if 0 ≤ ga sh x then sh.set y (1 - ga sh x) else sh
def stS (sh : List Int) (x y : Nat) : List Int := stA (stA sh x y) y x
def rowS (d : Dg) (sh : List Int) : Nat → List Int
  | 0 => sh
  | j + 1 => stS (rowS d sh j) (fcJ d j) (fcJ d (nxJ j))
def iniS (d : Dg) : List Int := (List.replicate (fcsC d).length (-1 : Int)).set 0 0
def rdsS (d : Dg) : Nat → List Int
  | 0 => iniS d
  | r + 1 => rowS d (rdsS d r) (4 * d.crs.length)
theorem stA_ok {d : Dg} (h : OkS d) {sh : List Int} (hp : PartC d sh) {x y : Nat} (ha : AdjF d x y) : PartC d (stA sh x y) ∧ (∀ i, i < (fcsC d).length → 0 ≤ ga sh i → 0 ≤ ga (stA sh x y) i) ∧ (0 ≤ ga sh x → 0 ≤ ga (stA sh x y) y) := by
  unfold stA
  split
  · obtain ⟨h1, h2, h3⟩ := part_set h hp ha (by assumption)
    exact ⟨h1, h2, fun _ => h3⟩
  · exact ⟨hp, fun _ _ h => h, fun h' => absurd h' (by assumption)⟩
theorem stS_ok {d : Dg} (h : OkS d) {sh : List Int} (hp : PartC d sh) {x y : Nat} (ha : AdjF d x y) : PartC d (stS sh x y) ∧ (∀ i, i < (fcsC d).length → 0 ≤ ga sh i → 0 ≤ ga (stS sh x y) i) ∧ (0 ≤ ga sh x ∨ 0 ≤ ga sh y → 0 ≤ ga (stS sh x y) x ∧ 0 ≤ ga (stS sh x y) y) := by
  obtain ⟨lx, ly, _⟩ := ha.ok h
  obtain ⟨a1, a2, a3⟩ := stA_ok h hp ha
  obtain ⟨b1, b2, b3⟩ := stA_ok h a1 ha.symm
  refine ⟨b1, fun i hi h0 => b2 i hi (a2 i hi h0), fun h0 => ?_⟩
  have hy : 0 ≤ ga (stA sh x y) y := by
    rcases h0 with h0 | h0
    · exact a3 h0
    · exact a2 y ly h0
  exact ⟨b3 hy, b2 y ly hy⟩
theorem rowS_ok {d : Dg} (h : OkS d) {sh : List Int} (hp : PartC d sh) (k : Nat) (hk : k ≤ 4 * d.crs.length) : PartC d (rowS d sh k) ∧ (∀ i, i < (fcsC d).length → 0 ≤ ga sh i → 0 ≤ ga (rowS d sh k) i) ∧
    ∀ j, j < k → (0 ≤ ga sh (fcJ d j) ∨ 0 ≤ ga sh (fcJ d (nxJ j)) → 0 ≤ ga (rowS d sh k) (fcJ d j) ∧ 0 ≤ ga (rowS d sh k) (fcJ d (nxJ j))) := by
  induction k with
  | zero => exact ⟨hp, fun _ _ h => h, fun j hj => by omega⟩
  | succ k ih =>
    obtain ⟨i1, i2, i3⟩ := ih (by omega)
    obtain ⟨s1, s2, s3⟩ := stS_ok h i1 (adj_nx (d := d) (j := k) (by omega))
    refine ⟨s1, fun i hi h0 => s2 i hi (i2 i hi h0), fun j hj h0 => ?_⟩
    have l1 := fcJ_lt h (j := j) (by omega)
    have l2 := fcJ_lt h (nxJ_lt (n := d.crs.length) (j := j) (by omega))
    by_cases e : j = k
    · subst e
      exact s3 (h0.elim (fun h => .inl (i2 _ l1 h)) (fun h => .inr (i2 _ l2 h)))
    · obtain ⟨g1, g2⟩ := i3 j (by omega) h0
      exact ⟨s2 _ l1 g1, s2 _ l2 g2⟩
theorem iniS_ok {d : Dg} (h : OkS d) : PartC d (iniS d) ∧ 0 ≤ ga (iniS d) 0 := by
  have hf := h.fn
  have e : ∀ i, i < (fcsC d).length → ga (iniS d) i = if i = 0 then 0 else -1 := fun i hi => by
    unfold iniS
    rw [ga_set _ _ _ _ (by rw [List.length_replicate]; omega)]
    by_cases e : i = 0
    · rw [if_pos e.symm, if_pos e]
    · rw [if_neg (fun h => e h.symm), if_neg e, ga_rep _ _ _ hi]
  refine ⟨⟨by unfold iniS; simp, by rw [e 0 (by omega), if_pos rfl], fun i hi => ?_⟩, by rw [e 0 (by omega), if_pos rfl]; exact Int.le_refl _⟩
  rw [e i hi]
  split
  · rename_i e0; subst e0; exact .inr (shv_zero h).symm
  · exact .inl rfl
theorem rdsS_part {d : Dg} (h : OkS d) (r : Nat) : PartC d (rdsS d r) := by
  induction r with
  | zero => exact (iniS_ok h).1
  | succ r ih => exact (rowS_ok h ih _ (Nat.le_refl _)).1
theorem cnle (P : Nat → Bool) (k : Nat) : cn P k ≤ k := cn_le P k
theorem adj_lift {d : Dg} {P : Nat → Prop} (hP : ∀ j, j < 4 * d.crs.length → (P (fcJ d j) ↔ P (fcJ d (nxJ j)))) {x y : Nat} (ha : AdjF d x y) : P x ↔ P y := by
  obtain ⟨j, hj, ⟨rfl, rfl⟩ | ⟨rfl, rfl⟩⟩ := ha
  · have := hP (prJ j) (prJ_lt hj)
    rw [show nxJ (prJ j) = j by unfold prJ nxJ; omega] at this
    exact this.symm
  · have := hP (prJ j) (prJ_lt hj)
    rw [show nxJ (prJ j) = j by unfold prJ nxJ; omega] at this
    exact this
theorem rdsS_all {d : Dg} (h : OkS d) : rdsS d (fcsC d).length = shL d := by
  have hgrow : ∀ r, rdsS d r = shL d ∨ r + 1 ≤ cn (dnB (rdsS d r)) (fcsC d).length := fun r => by
    have hf := h.fn
    induction r with
    | zero =>
      right
      have h1 := cn_less (P := dnB (rdsS d 0)) (Q := fun i => dnB (rdsS d 0) i && decide (i ≠ 0)) (N := (fcsC d).length) (z := 0) (by omega) (decide_eq_true (iniS_ok h).2) (by simp) (fun x _ hx => by simp [hx])
      omega
    | succ r ih =>
      obtain ⟨r1, r2, r3⟩ := rowS_ok h (rdsS_part h r) (4 * d.crs.length) (Nat.le_refl _)
      by_cases hnew : ∃ i, i < (fcsC d).length ∧ dnB (rdsS d (r + 1)) i = true ∧ dnB (rdsS d r) i = false
      · obtain ⟨i, hi, n1, n2⟩ := hnew
        right
        have hlt := cn_lt (P := dnB (rdsS d r)) (Q := dnB (rdsS d (r + 1))) (fcsC d).length (fun x hx hp => decide_eq_true (r2 x hx (of_decide_eq_true hp))) hi n1 n2
        rcases ih with ih | ih
        · exfalso
          have : dnB (rdsS d r) i = true := by
            rw [ih]
            exact decide_eq_true (by rw [shL_ga hi]; exact (shv_bd d i).1)
          rw [n2] at this; cases this
        · omega
      · left
        refine part_all h r1 fun x y ha hx => ?_
        obtain ⟨lx, ly, _⟩ := ha.ok h
        have hold : ∀ i, i < (fcsC d).length → 0 ≤ ga (rdsS d (r + 1)) i → 0 ≤ ga (rdsS d r) i := fun i hi h0 => by
          cases hq : dnB (rdsS d r) i with
          | true => exact of_decide_eq_true hq
          | false => exact absurd ⟨i, hi, decide_eq_true h0, hq⟩ hnew
        have hiff := adj_lift (d := d) (P := fun i => 0 ≤ ga (rdsS d (r + 1)) i) (fun j hj => by
          have l1 := fcJ_lt h hj
          have l2 := fcJ_lt h (nxJ_lt (n := d.crs.length) hj)
          exact ⟨fun h0 => (r3 j hj (.inl (hold _ l1 h0))).2, fun h0 => (r3 j hj (.inr (hold _ l2 h0))).1⟩) ha
        exact hiff.1 hx
  rcases hgrow (fcsC d).length with h1 | h1
  · exact h1
  · have := cnle (dnB (rdsS d (fcsC d).length)) (fcsC d).length
    omega
/-- The faces on both sides of a dart, by its code. -/
def revC (c : Nat) : Nat := if c % 2 = 1 then c - 1 else c + 1
theorem dA_rev {c : Nat} : dA (revC c) = ⟨(dA c).a, !(dA c).b⟩ := by
  unfold revC dA
  by_cases h : c % 2 = 1
  · rw [if_pos h]
    congr 1
    · show (((c - 1) / 2 : Nat) : Int) = ((c / 2 : Nat) : Int); omega
    · simp only [h, decide_true, Bool.not_true, decide_eq_false_iff_not]; omega
  · rw [if_neg h]
    congr 1
    · show (((c + 1) / 2 : Nat) : Int) = ((c / 2 : Nat) : Int); omega
    · simp only [h, decide_false, Bool.not_false, decide_eq_true_eq]; omega
theorem rgC_rev {d : Dg} {c : Nat} (h : rgC d c) : rgC d (revC c) := by
  unfold rgC revC at *
  split <;> omega
theorem adj_rev {d : Dg} (h : OkS d) {c : Nat} (hc : rgC d c) : AdjF d (fcI d c) (fcI d (revC c)) := by
  have ho := dA_ok hc
  have h1 := ho.1
  have h2 := ho.2
  have ha : (dA c).a.toNat - 1 < 2 * d.crs.length := by omega
  have key : ∀ b, enJ d b ((dA c).a.toNat - 1) < 4 * d.crs.length ∧ outD d (enJ d b ((dA c).a.toNat - 1)) = ⟨(dA c).a, !b⟩ := fun b => by
    obtain ⟨a1, a2, _⟩ := enJ_at h.ab ha b
    refine ⟨a1, ?_⟩
    rw [a2, show (((dA c).a.toNat - 1 + 1 : Nat) : Int) = (dA c).a by omega]
  have fc : ∀ b, fcJ d (enJ d b ((dA c).a.toNat - 1)) = fcI d (dcN ⟨(dA c).a, !b⟩) := fun b => by unfold fcJ; rw [(key b).2]
  have e1 : fcI d c = fcJ d (enJ d (!(dA c).b) ((dA c).a.toNat - 1)) := by
    rw [fc, Bool.not_not]
    show _ = fcI d (dcN (dA c))
    rw [dcN_dA]
  have e2 : fcI d (revC c) = fcJ d (enJ d (dA c).b ((dA c).a.toNat - 1)) := by
    rw [fc, ← dA_rev, dcN_dA]
  obtain ⟨n1, n2⟩ := h.mp.nx _ ha
  refine ⟨_, (key (!(dA c).b)).1, .inl ⟨e1, ?_⟩⟩
  rw [e2]
  cases (dA c).b
  · exact n1
  · exact n2
theorem out_rev {d : Dg} (h : OkS d) {j : Nat} (hj : j < 4 * d.crs.length) : fcI d (revC (dcN (outD d j))) = fcJ d (prJ j) := by
  have ho := outD_ok h.ab hj
  have hra := h.mp.at_ j hj
  have hdA := dA_dcN (x := outD d j) (by have := ho.1; omega)
  obtain ⟨l1, l2⟩ := hra
  have a0 : (((arcJ d j).toNat - 1 + 1 : Nat) : Int) = arcJ d j := by have := arcs_rng h.ab hj; omega
  have step : ∀ b, j = enJ d b ((arcJ d j).toNat - 1) → fcI d (revC (dcN (outD d j))) = fcJ d (enJ d (!b) ((arcJ d j).toNat - 1)) := fun b hb => by
    obtain ⟨_, a2, _⟩ := enJ_at h.ab l1 b
    obtain ⟨_, b2, _⟩ := enJ_at h.ab l1 (!b)
    rw [← hb] at a2
    unfold fcJ
    rw [b2, Bool.not_not]
    have e9 := dA_rev (c := dcN (outD d j))
    rw [hdA, a2] at e9
    simp only [Bool.not_not] at e9
    rw [← e9, dcN_dA, a2]
  obtain ⟨n1, n2⟩ := h.mp.nx _ l1
  rcases l2 with l2 | l2
  · rw [step false l2, show fcJ d (prJ j) = fcJ d (prJ (enJ d false ((arcJ d j).toNat - 1))) by rw [← l2]]
    exact n2
  · rw [step true l2, show fcJ d (prJ j) = fcJ d (prJ (enJ d true ((arcJ d j).toNat - 1))) by rw [← l2]]
    exact n1
theorem rev_dcN (a : Int) (b : Bool) (h : 1 ≤ a) : dcN ⟨a, !b⟩ = revC (dcN ⟨a, b⟩) := by
  unfold dcN revC
  cases b
  · simp only [Bool.not_false, if_true, Bool.false_eq_true, if_false]; split <;> omega
  · simp only [Bool.not_true, if_true, Bool.false_eq_true, if_false]; split <;> omega
theorem adj_darts {d : Dg} (h : OkS d) {P : Nat → Prop} (hP : ∀ k, k < 4 * d.crs.length → P (fcI d (k + 2)) → P (fcI d (revC (k + 2)))) {x y : Nat} (ha : AdjF d x y) : P x → P y := by
  have key : ∀ j, j < 4 * d.crs.length → (P (fcJ d j) → P (fcJ d (prJ j))) ∧ (P (fcJ d (prJ j)) → P (fcJ d j)) := fun j hj => by
    have ho := outD_ok h.ab hj
    have hr := dcN_rng ho
    have e1 : fcI d (dcN (outD d j)) = fcJ d j := rfl
    have e2 := out_rev h hj
    have hrr := rgC_rev (d := d) hr
    have h1 := hP (dcN (outD d j) - 2) (by have := hr.1; have := hr.2; omega)
    have h2 := hP (revC (dcN (outD d j)) - 2) (by have := hrr.1; have := hrr.2; omega)
    rw [show dcN (outD d j) - 2 + 2 = dcN (outD d j) by have := hr.1; omega, e1, e2] at h1
    rw [show revC (dcN (outD d j)) - 2 + 2 = revC (dcN (outD d j)) by have := hrr.1; omega, e2, show revC (revC (dcN (outD d j))) = dcN (outD d j) by have := hr.1; unfold revC; (repeat' split) <;> omega, e1] at h2
    exact ⟨h1, h2⟩
  obtain ⟨j, hj, ⟨rfl, rfl⟩ | ⟨rfl, rfl⟩⟩ := ha
  · exact (key j hj).1
  · exact (key j hj).2
end Go.Proofs.Ythppkofceancjaa
namespace Go.Proofs.Ythppkofceancjaa
open Go.ChangeShapes Go.WideShapes Go.ChangeAt Go.RowKit
theorem SH.pubBx {w : World} {M : Hp} {X : Fr} {H H' : List Rs} {i g : Nat} {T : TypeId} {l : List Value} (S : SH w M X H) (hi : nth H i = some (Rs.box g T l)) (hH : H.set i Rs.emp = H') : ∃ M', M.le M' ∧ SH w M' X H' ∧ BxM M' g T l := by
 obtain ⟨h1, h2, h3⟩ := S.pub hi hH
 have h4 : hp w g = some (.cells l.toArray T (0, 0)) := S.get hi
 exact ⟨_, h1, h2, (h3 g (by simp [Rs.box])).trans h4⟩
theorem mayO {d : Dg} (h : mayB d = true) : d.crs.length ≤ 16 ∧ arcsB d = true ∧ 0 ≤ d.loops ∧ d.loops ≤ 16 := by
 rw [mayB_arcs, Bool.and_eq_true, decide_eq_true_iff] at h
 exact ⟨h.1.1, h.2, h.1.2.1, h.1.2.2.1⟩
def ShM (N : Hp) (d : Dg) (g : Nat) (cA iA oA : Option Addr) (cc ic oc : Nat) : Prop := BxM N g 61 [.slice cA d.crs.length cc, .int .i64 d.loops, .slice iA (tabL d false (4 * d.crs.length)).length ic, .slice oA (tabL d true (4 * d.crs.length)).length oc] ∧ RdA cdCr N cA cc d.crs ∧ RdA cdPl N iA ic (tabL d false (4 * d.crs.length)) ∧ RdA cdPl N oA oc (tabL d true (4 * d.crs.length))
def NewT (d : Dg) (v : Value) (N : Hp) : Prop :=
 (mayB d = false ∧ v = .tuple [.pointer none, .bool false].toArray) ∨
 (mayB d = true ∧ ∃ g cA iA oA cc ic oc, v = .tuple [.pointer (some ⟨g, 0, none⟩), .bool true].toArray ∧ ShM N d g cA iA oA cc ic oc)
theorem New_t {w : World} {M : Hp} {X : Fr} (d : Dg) {A : Option Addr} {c : Nat} (h : RdA cdCr (M.un X.h) A c d.crs) (S : SH w M X []) : Ct Try.prog 30 [.agg [.slice A d.crs.length c, .int .i64 d.loops].toArray] w M X (NewT d) := by
 refine (New_o d h S).mono ?_
 rintro e w' ⟨v, rfl, N, S1, ⟨hm, rfl, rfl⟩ | ⟨hm, g, vc, vi, vo, rfl, rfl, hv⟩⟩
 ·exact ⟨_, rfl, M, Hp.le_refl _, S1, .inl ⟨hm, rfl⟩⟩
 ·obtain ⟨hn, _⟩ := mayO hm
  have t1 := tabL_len d false (4 * d.crs.length)
  have t2 := tabL_len d true (4 * d.crs.length)
  clear hv
  obtain ⟨M1, l1, S2, ⟨cA, cc, rfl, r1⟩⟩ := S1.pubrow (i := 1) rfl rfl (by show _ * 40 ≤ _; omega)
  obtain ⟨M2, l2, S3, ⟨iA, ic, rfl, r2⟩⟩ := S2.pubrow (C := cdPl) (xs := tabL d false (4 * d.crs.length)) (i := 2) rfl rfl (by show _ * 16 ≤ _; omega)
  obtain ⟨M3, l3, S4, ⟨oA, oc, rfl, r3⟩⟩ := S3.pubrow (C := cdPl) (xs := tabL d true (4 * d.crs.length)) (i := 3) rfl rfl (by show _ * 16 ≤ _; omega)
  obtain ⟨M4, l4, S5, b⟩ := S4.pubBx (i := 0) rfl rfl
  exact ⟨_, rfl, M4, (l1.trans l2).trans (l3.trans l4), S5.pick [] [] (by decide) trivial, .inr ⟨hm, g, cA, iA, oA, cc, ic, oc, rfl, b, ((r1.mono l2).mono l3).mono l4, (r2.mono l3).mono l4, r3.mono l4⟩⟩
def DgR (d : Dg) (u : Value) (M : Hp) : Prop := ∃ A c, u = .agg [.slice A d.crs.length c, .int .i64 d.loops].toArray ∧ RdA cdCr M A c d.crs
noncomputable def DiagramOf_n0 : Code := Try.f5.body.getD .skip
noncomputable def DiagramOf_n1 : Code := cL DiagramOf_n0
noncomputable def DiagramOf_n2 : Code := cR DiagramOf_n0
noncomputable def DiagramOf_n3 : Code := cL DiagramOf_n2
noncomputable def DiagramOf_n4 : Code := cR DiagramOf_n2
noncomputable def DiagramOf_n5 : Code := cL DiagramOf_n4
noncomputable def DiagramOf_n6 : Code := cR DiagramOf_n4
set_option maxRecDepth 10000 in
theorem DiagramOf_t {w : World} {M : Hp} {X : Fr} (d : Dg) {dcrsA : Option Addr} {dcrsc : Nat} (hdcrs : RdA cdCr (M.un X.h) dcrsA dcrsc d.crs) (S : SH w M X []) : Ct Try.prog 5 [.agg [.slice dcrsA d.crs.length dcrsc, .int .i64 d.loops].toArray] w M X (DgR d) := by
 unfold Ct
 have rmhdcrs : d.crs.length * 40 ≤ 140737488355328 := hdcrs.room
 have hroom : d.crs.length * 40 ≤ 140737488355328 := hdcrs.room
 refine calls_in (b := DiagramOf_n0) Try.func5 rfl Try.ntmps5 rfl (fun C hC => (ws_sub [(0, _)] ⟨rfl, trivial⟩ (ws_seqN DiagramOf_n1 DiagramOf_n2 rfl rfl rfl (ws_region rfl (wlo 0 1 rfl rfl rfl (wo_box (l := [_, _]) rfl rfl rfl rfl rfl S ?_))))))
 intro gb1 w1 S1; clear S
 refine wlo 1 2 rfl rfl rfl (wo_alloc (l := [_, _]) rfl rfl rfl zr24 rfl S1 ?_)
 intro gb2 w2 S2; clear S1
 refine wl_end rfl (nmk [1, 2] rfl (nm_thn (ws_seqN DiagramOf_n3 DiagramOf_n4 rfl rfl rfl (ws_region rfl ?_))))
 refine wlo 0 1 rfl rfl rfl (wo_run rfl rfl (run_fieldAddr rfl rfl Try.underlying24 rfl (ce22) (nf22)) (wlo 1 2 rfl rfl rfl (wo_run rfl rfl (run_load1 rfl rfl Try.underlying22 rfl (S2.boxc (i := 1) rfl rfl)) ?_)))
 have S3 := S2.nilrow cdCr; clear S2
 refine wlo 2 3 rfl rfl rfl (wo_appendM (C := cdCr) (i := 0) rfl rfl rfl rfl rfl rfl rfl rfl sl22 S3 rfl hdcrs S3.um (by have h : _ * 40 ≤ _ := hdcrs.room; show (0 + _) * 40 ≤ _; first | omega | (simp only [lens]; omega)) ?_)
 intro vr2 w3 S4; clear S3
 change SH _ _ _ [Rs.row cdCr vr2 d.crs, _, _] at S4
 refine wlo 3 4 rfl rfl rfl (wo_run rfl rfl (run_fieldAddr rfl rfl Try.underlying24 rfl (ce22) (nf22)) (wlo 4 5 rfl rfl rfl (wo_storeB (i := 2) (us := [_]) (l' := [_, _]) (H' := [_, _, _]) rfl rfl S4 rfl rfl rfl (S4.cells1 (i := 0) rfl) sz22 rfl (ones_cons (S4.one (i := 0) rfl) rfl) rfl rfl ?_)))
 intro w4 S5; clear S4
 refine wl_end rfl (nmk [1, 2] rfl (nm_thn (ws_seqN DiagramOf_n5 DiagramOf_n6 rfl rfl rfl (ws_region rfl ?_))))
 refine wlo 0 1 rfl rfl rfl (wo_run rfl rfl (run_loadN (us := [_, _]) rfl rfl Try.underlying24 rfl sz24 (S5.boxcs (i := 2) rfl ⟨rfl, rfl, trivial⟩)) (wlo 1 2 rfl rfl rfl (wo_storeB (i := 1) (us := [_, _]) (l' := [_, _]) (H' := [_, _, _]) rfl rfl S5 rfl rfl rfl rfl sz24 rfl (ones_cons (S5.one (i := 0) rfl) (ones_cons rfl rfl)) rfl rfl ?_)))
 intro w5 S6; clear S5
 refine wl_end rfl (nmk [2] rfl (nm_thn ?_))
 obtain ⟨M1, hle1, S7, ⟨A1, c1, e1, hr1⟩⟩ := S6.pubrow (i := 0) (H' := [_, _, _]) rfl rfl (by show _ * 40 ≤ _; first | omega | (simp only [lens]; omega))
 clear S6; subst e1
 replace hdcrs := hdcrs.mono (Hp.un_mono hle1 S7.mx)
 refine ws_ret hC [_] rfl rfl ⟨⟨_, rfl, loadVarN (us := [_, _]) Try.underlying24 rfl sz24 (S7.boxcs (i := 1) rfl ⟨rfl, rfl, trivial⟩)⟩, trivial⟩ ?_
 refine ⟨_, rfl, _, hle1, (S7.pick [] [] (by decide) trivial), ?_⟩
 exact ⟨_, _, rfl, hr1⟩
end Go.Proofs.Ythppkofceancjaa
namespace Go.Proofs.Ythppkofceancjaa
open Go.ChangeShapes Go.WideShapes Go.ChangeAt Go.RowKit
/-- What forbids that a diagram is opened to wind. -/
def errO (d : Dg) : Int := if mayB d = true then (if planP d = true then 0 else 5) else 7
theorem errO_ok {d : Dg} (h : errO d = 0) : mayB d = true ∧ planP d = true := by
 unfold errO at h
 split at h
 ·split at h
  ·exact ⟨by assumption, by assumption⟩
  ·cases h
 ·cases h
def OpenT (d : Dg) (v : Value) (N : Hp) : Prop :=
 (errO d ≠ 0 ∧ v = .tuple [.pointer none, .int .i64 (errO d)].toArray) ∨
 (errO d = 0 ∧ ∃ g cA iA oA cc ic oc, v = .tuple [.pointer (some ⟨g, 0, none⟩), .int .i64 0].toArray ∧ ShM N d g cA iA oA cc ic oc)
noncomputable def Open_n0 : Code := Try.f18.body.getD .skip
noncomputable def Open_n1 : Code := cL Open_n0
noncomputable def Open_n2 : Code := cR Open_n0
noncomputable def Open_n3 : Code := cL Open_n2
noncomputable def Open_n4 : Code := cR Open_n2
noncomputable def Open_n5 : Code := cL Open_n4
noncomputable def Open_n6 : Code := cR Open_n4
noncomputable def Open_n7 : Code := cL Open_n5
noncomputable def Open_n8 : Code := cL Open_n7
noncomputable def Open_n9 : Code := cR Open_n7
noncomputable def Open_n10 : Code := cL Open_n9
noncomputable def Open_n11 : Code := cR Open_n9
noncomputable def Open_n12 : Code := cL Open_n10
noncomputable def Open_n13 : Code := cR Open_n10
noncomputable def Open_n14 : Code := cL Open_n11
noncomputable def Open_n15 : Code := cR Open_n11
noncomputable def Open_n16 : Code := cL Open_n15
noncomputable def Open_n17 : Code := cR Open_n15
noncomputable def Open_n18 : Code := cL Open_n16
noncomputable def Open_n19 : Code := cR Open_n16
noncomputable def Open_n20 : Code := cL Open_n6
noncomputable def Open_n21 : Code := cR Open_n6
set_option maxRecDepth 10000 in
theorem Open_t {w : World} {M : Hp} {X : Fr} (d : Dg) {dcrsA : Option Addr} {dcrsc : Nat} (hdcrs : RdA cdCr (M.un X.h) dcrsA dcrsc d.crs) (S : SH w M X []) : Ct Try.prog 18 [.agg [.slice dcrsA d.crs.length dcrsc, .int .i64 d.loops].toArray] w M X (OpenT d) := by
 unfold Ct
 have rmhdcrs : d.crs.length * 40 ≤ 140737488355328 := hdcrs.room
 refine calls_in (b := Open_n0) Try.func18 rfl Try.ntmps18 rfl (fun C hC => (ws_sub [(0, _)] ⟨rfl, trivial⟩ (ws_seqN Open_n1 Open_n2 rfl rfl rfl (ws_region rfl (wlo 0 1 rfl rfl rfl (wo_box (l := [_, _]) rfl rfl rfl rfl rfl S ?_))))))
 intro gb1 w1 S1; clear S
 refine wla 1 2 rfl rfl rfl rfl rfl rfl rfl (wla 2 3 rfl rfl rfl rfl rfl rfl rfl (wl_end rfl (nmk [1] rfl (nm_thn ?_))))
 refine ws_seqN Open_n3 Open_n4 rfl rfl rfl (ws_region rfl (wlo 0 1 rfl rfl rfl (wo_run rfl rfl (run_loadN (us := [_, _]) rfl rfl Try.underlying24 rfl sz24 (S1.boxcs (i := 0) rfl ⟨rfl, rfl, trivial⟩)) (wlo 1 2 rfl rfl rfl (wo_ct rfl rfl rfl rfl rfl rfl rfl cf30 S1 (New_t d (hdcrs.mono S1.un_XH) S1.lend) ?_)))))
 intro vw2 w2 M1 hle1 S2 hRw2; clear S1
 replace hdcrs := hdcrs.mono (Hp.un_mono hle1 S2.mx)
 rcases hRw2 with ⟨hmay8, rfl⟩ | ⟨hmay8, g1, cA8, iA8, oA8, cc8, ic8, oc8, rfl, hsb8, hsc8, hsi8, hso8⟩
 ·refine wlm 2 3 rfl rfl rfl rfl rfl rfl rfl (wlo 3 4 rfl rfl rfl (wo_run rfl rfl (run_extract rfl rfl rfl) (wlo 4 5 rfl rfl rfl (wo_run rfl rfl (run_extract rfl rfl rfl) (wla 5 6 rfl rfl rfl rfl rfl rfl rfl (wla 6 7 rfl rfl rfl rfl rfl rfl rfl ?_))))))
  refine wl_end rfl (nmk [4, 5] rfl (nm_thn (ws_seqN Open_n5 Open_n6 rfl rfl rfl (ws_blockN Open_n7 0 rfl rfl rfl ?_))))
  refine ws_seqN Open_n8 Open_n9 rfl rfl rfl (ws_region rfl (wlm 0 1 rfl rfl rfl rfl rfl rfl rfl (wlo 1 2 rfl rfl rfl (wo_run rfl rfl (run_not rfl rfl) (wla 2 3 rfl rfl rfl rfl rfl rfl rfl ?_)))))
  refine wl_end rfl (nmk [4, 11] rfl (nm_thn (ws_condTN Open_n10 rfl rfl rfl (ws_seqN Open_n12 Open_n13 rfl rfl rfl ?_))))
  refine ws_region rfl (wla 0 1 rfl rfl rfl rfl rfl rfl rfl (wla 1 2 rfl rfl rfl rfl rfl rfl rfl (wl_end rfl (nmk [2, 3] rfl ?_))))
  refine nm_thn (ws_ret hC [_, _] rfl rfl ⟨rfl, rfl, trivial⟩ ?_)
  refine ⟨_, rfl, _, hle1, (S2.pick [] [] (by decide) trivial), ?_⟩
  have e0 : errO d = 7 := by unfold errO; rw [if_neg (by rw [hmay8]; exact Bool.false_ne_true)]
  exact .inl ⟨by rw [e0]; decide, by rw [e0]; rfl⟩
 ·obtain ⟨hn, hab, hlo0, hlo1⟩ := mayO hmay8
  refine wlm 2 3 rfl rfl rfl rfl rfl rfl rfl (wlo 3 4 rfl rfl rfl (wo_run rfl rfl (run_extract rfl rfl rfl) (wlo 4 5 rfl rfl rfl (wo_run rfl rfl (run_extract rfl rfl rfl) (wla 5 6 rfl rfl rfl rfl rfl rfl rfl (wla 6 7 rfl rfl rfl rfl rfl rfl rfl ?_))))))
  refine wl_end rfl (nmk [4, 5] rfl (nm_thn (ws_seqN Open_n5 Open_n6 rfl rfl rfl (ws_blockN Open_n7 0 rfl rfl rfl ?_))))
  refine ws_seqN Open_n8 Open_n9 rfl rfl rfl (ws_region rfl (wlm 0 1 rfl rfl rfl rfl rfl rfl rfl (wlo 1 2 rfl rfl rfl (wo_run rfl rfl (run_not rfl rfl) (wla 2 3 rfl rfl rfl rfl rfl rfl rfl ?_)))))
  refine wl_end rfl (nmk [4, 11] rfl (nm_thn (ws_condFN Open_n11 rfl rfl rfl (ws_seqN Open_n14 Open_n15 rfl rfl rfl ?_))))
  refine ws_region rfl (wlm 0 1 rfl rfl rfl rfl rfl rfl rfl (wlo 1 2 rfl rfl rfl (wo_ct rfl rfl rfl rfl rfl rfl rfl cf31 S2 (Planar_t d hsb8 hsc8 hsi8 hso8 hn hab S2.lend) ?_)))
  intro vw3 w3 M2 hle2 S3 hRw3; clear S2
  replace hdcrs := hdcrs.mono (Hp.un_mono hle2 S3.mx)
  replace hsb8 := hsb8.mono hle2
  replace hsc8 := hsc8.mono hle2
  replace hsi8 := hsi8.mono hle2
  replace hso8 := hso8.mono hle2
  obtain rfl := hRw3
  refine wlo 2 3 rfl rfl rfl (wo_run rfl rfl (run_not rfl rfl) (wla 3 4 rfl rfl rfl rfl rfl rfl rfl (wl_end rfl (nmk [4, 14] rfl (nm_thn ?_)))))
  refine ws_condN Open_n16 Open_n17 rfl rfl rfl rfl (fun hb14 => ?_) (fun hb14 => ?_)
  ·simp only [Bool.and_eq_true, Bool.or_eq_true, Bool.and_eq_false_iff, Bool.or_eq_false_iff, decide_eq_true_eq, decide_eq_false_iff_not, Bool.not_eq_true', Bool.not_eq_false'] at hb14
   refine ws_seqN Open_n18 Open_n19 rfl rfl rfl (ws_region rfl (wla 0 1 rfl rfl rfl rfl rfl rfl rfl (wla 1 2 rfl rfl rfl rfl rfl rfl rfl (wl_end rfl ?_))))
   refine nmk [2, 3] rfl (nm_thn (ws_ret hC [_, _] rfl rfl ⟨rfl, rfl, trivial⟩ ?_))
   refine ⟨_, rfl, _, hle1.trans hle2, (S3.pick [] [] (by decide) trivial), ?_⟩
   have e0 : errO d = 5 := by unfold errO; rw [if_pos hmay8, if_neg (by simp [*])]
   exact .inl ⟨by rw [e0]; decide, by rw [e0]; rfl⟩
  ·simp only [Bool.and_eq_true, Bool.or_eq_true, Bool.and_eq_false_iff, Bool.or_eq_false_iff, decide_eq_true_eq, decide_eq_false_iff_not, Bool.not_eq_true', Bool.not_eq_false'] at hb14
   refine ws_skip rfl (nm_blk (nmk [4] rfl (nm_thn (ws_seqN Open_n20 Open_n21 rfl rfl rfl ?_))))
   refine ws_region rfl (wlm 0 1 rfl rfl rfl rfl rfl rfl rfl (wla 1 2 rfl rfl rfl rfl rfl rfl rfl (wla 2 3 rfl rfl rfl rfl rfl rfl rfl (wl_end rfl ?_))))
   refine nmk [2, 3] rfl (nm_thn (ws_ret hC [_, _] rfl rfl ⟨rfl, rfl, trivial⟩ ?_))
   refine ⟨_, rfl, _, hle1.trans hle2, (S3.pick [] [] (by decide) trivial), ?_⟩
   have e0 : errO d = 0 := by unfold errO; rw [if_pos hmay8, if_pos (by simpa using hb14)]
   exact .inr ⟨e0, _, _, _, _, _, _, _, rfl, hsb8, hsc8, hsi8, hso8⟩
noncomputable def PlanarMay_n0 : Code := Try.f14.body.getD .skip
noncomputable def PlanarMay_n1 : Code := cL PlanarMay_n0
noncomputable def PlanarMay_n2 : Code := cR PlanarMay_n0
noncomputable def PlanarMay_n3 : Code := cL PlanarMay_n2
noncomputable def PlanarMay_n4 : Code := cR PlanarMay_n2
noncomputable def PlanarMay_n5 : Code := cL PlanarMay_n3
noncomputable def PlanarMay_n6 : Code := cR PlanarMay_n3
noncomputable def PlanarMay_n7 : Code := cL PlanarMay_n6
noncomputable def PlanarMay_n8 : Code := cR PlanarMay_n6
noncomputable def PlanarMay_n9 : Code := cL PlanarMay_n7
noncomputable def PlanarMay_n10 : Code := cR PlanarMay_n7
noncomputable def PlanarMay_n11 : Code := cL PlanarMay_n4
noncomputable def PlanarMay_n12 : Code := cR PlanarMay_n4
noncomputable def PlanarMay_n13 : Code := cL PlanarMay_n11
noncomputable def PlanarMay_n14 : Code := cR PlanarMay_n11
noncomputable def PlanarMay_n15 : Code := cL PlanarMay_n14
noncomputable def PlanarMay_n16 : Code := cR PlanarMay_n14
noncomputable def PlanarMay_n17 : Code := cL PlanarMay_n15
noncomputable def PlanarMay_n18 : Code := cR PlanarMay_n15
noncomputable def PlanarMay_n19 : Code := cL PlanarMay_n12
noncomputable def PlanarMay_n20 : Code := cR PlanarMay_n12
set_option maxRecDepth 10000 in
theorem PlanarMay_t {w : World} {M : Hp} {X : Fr} (d : Dg) {dcrsA : Option Addr} {dcrsc : Nat} (hdcrs : RdA cdCr (M.un X.h) dcrsA dcrsc d.crs) (S : SH w M X []) : Ct Try.prog 14 [.agg [.slice dcrsA d.crs.length dcrsc, .int .i64 d.loops].toArray] w M X (fun u _ => u = .int .i64 (errO d)) := by
 unfold Ct
 have rmhdcrs : d.crs.length * 40 ≤ 140737488355328 := hdcrs.room
 refine calls_in (b := PlanarMay_n0) Try.func14 rfl Try.ntmps14 rfl (fun C hC => (ws_sub [(0, _)] ⟨rfl, trivial⟩ (ws_seqN PlanarMay_n1 PlanarMay_n2 rfl rfl rfl (ws_region rfl (wlo 0 1 rfl rfl rfl (wo_box (l := [_, _]) rfl rfl rfl rfl rfl S ?_))))))
 intro gb1 w1 S1; clear S
 refine wla 1 2 rfl rfl rfl rfl rfl rfl rfl (wl_end rfl (nmk [1] rfl (nm_thn (ws_seqN PlanarMay_n3 PlanarMay_n4 rfl rfl rfl ?_))))
 refine ws_seqN PlanarMay_n5 PlanarMay_n6 rfl rfl rfl (ws_region rfl (wlo 0 1 rfl rfl rfl (wo_run rfl rfl (run_loadN (us := [_, _]) rfl rfl Try.underlying24 rfl sz24 (S1.boxcs (i := 0) rfl ⟨rfl, rfl, trivial⟩)) (wlo 1 2 rfl rfl rfl (wo_cq rfl rfl rfl rfl rfl rfl rfl cf23 S1 (DiagramMay_q d (hdcrs.mono S1.un_XH) S1.lend) ?_)))))
 rintro _ w2 S2 rfl; clear S1
 refine wlo 2 3 rfl rfl rfl (wo_run rfl rfl (run_not rfl rfl) (wl_end rfl (nmk [1, 5] rfl (nm_thn ?_))))
 refine ws_condN PlanarMay_n7 PlanarMay_n8 rfl rfl rfl rfl (fun hb5 => ?_) (fun hb5 => ?_)
 ·simp only [Bool.and_eq_true, Bool.or_eq_true, Bool.and_eq_false_iff, Bool.or_eq_false_iff, decide_eq_true_eq, decide_eq_false_iff_not, Bool.not_eq_true', Bool.not_eq_false'] at hb5
  refine ws_seqN PlanarMay_n9 PlanarMay_n10 rfl rfl rfl (ws_region rfl (wla 0 1 rfl rfl rfl rfl rfl rfl rfl (wl_end rfl (nmk [2] rfl ?_))))
  refine nm_thn (ws_ret hC [_] rfl rfl ⟨rfl, trivial⟩ ?_)
  refine ⟨_, rfl, _, Hp.le_refl _, (S2.pick [] [] (by decide) trivial), ?_⟩
  have e0 : errO d = 7 := by unfold errO; rw [if_neg (by simp_all)]
  rw [e0]
  rfl
 ·simp only [Bool.and_eq_true, Bool.or_eq_true, Bool.and_eq_false_iff, Bool.or_eq_false_iff, decide_eq_true_eq, decide_eq_false_iff_not, Bool.not_eq_true', Bool.not_eq_false'] at hb5
  have hm : mayB d = true := by simpa using hb5
  obtain ⟨hn, hab, _, _⟩ := mayO hm
  refine ws_skip rfl (nmk [1] rfl (nm_thn (ws_seqN PlanarMay_n11 PlanarMay_n12 rfl rfl rfl (ws_seqN PlanarMay_n13 PlanarMay_n14 rfl rfl rfl ?_))))
  refine ws_region rfl (wlo 0 1 rfl rfl rfl (wo_run rfl rfl (run_loadN (us := [_, _]) rfl rfl Try.underlying24 rfl sz24 (S2.boxcs (i := 0) rfl ⟨rfl, rfl, trivial⟩)) (wlo 1 2 rfl rfl rfl (wo_ct rfl rfl rfl rfl rfl rfl rfl cf24 S2 (PlanarIs_t d (hdcrs.mono S2.un_XH) (hn) (hab) S2.lend) ?_))))
  intro vw3 w3 M1 hle1 S3 hRw3; clear S2
  replace hdcrs := hdcrs.mono (Hp.un_mono hle1 S3.mx)
  obtain rfl := hRw3
  refine wlo 2 3 rfl rfl rfl (wo_run rfl rfl (run_not rfl rfl) (wl_end rfl (nmk [8] rfl (nm_thn ?_))))
  refine ws_condN PlanarMay_n15 PlanarMay_n16 rfl rfl rfl rfl (fun hb8 => ?_) (fun hb8 => ?_)
  ·simp only [Bool.and_eq_true, Bool.or_eq_true, Bool.and_eq_false_iff, Bool.or_eq_false_iff, decide_eq_true_eq, decide_eq_false_iff_not, Bool.not_eq_true', Bool.not_eq_false'] at hb8
   refine ws_seqN PlanarMay_n17 PlanarMay_n18 rfl rfl rfl (ws_region rfl (wla 0 1 rfl rfl rfl rfl rfl rfl rfl (wl_end rfl (nmk [2] rfl ?_))))
   refine nm_thn (ws_ret hC [_] rfl rfl ⟨rfl, trivial⟩ ?_)
   refine ⟨_, rfl, _, hle1, (S3.pick [] [] (by decide) trivial), ?_⟩
   have e1 := planar_law hab
   have e0 : errO d = 5 := by unfold errO; rw [if_pos hm, if_neg (by rw [← e1]; simp [*])]
   rw [e0]
   rfl
  ·simp only [Bool.and_eq_true, Bool.or_eq_true, Bool.and_eq_false_iff, Bool.or_eq_false_iff, decide_eq_true_eq, decide_eq_false_iff_not, Bool.not_eq_true', Bool.not_eq_false'] at hb8
   refine ws_skip rfl (nm_sub [] trivial (nm_thn (ws_seqN PlanarMay_n19 PlanarMay_n20 rfl rfl rfl (ws_region rfl ?_))))
   refine wla 0 1 rfl rfl rfl rfl rfl rfl rfl (wl_end rfl (nm_thn (ws_ret hC [_] rfl rfl ⟨rfl, trivial⟩ ?_)))
   refine ⟨_, rfl, _, hle1, (S3.pick [] [] (by decide) trivial), ?_⟩
   have e1 := planar_law hab
   have e0 : errO d = 0 := by unfold errO; rw [if_pos hm, if_pos (by rw [← e1]; simpa using hb8)]
   rw [e0]
   rfl
end Go.Proofs.Ythppkofceancjaa
namespace Go.Proofs.Ythppkofceancjaa
open Go.ChangeShapes Go.WideShapes Go.ChangeAt Go.RowKit
namespace InF
/-- The walk of a region alone: it neither panics nor leaves. -/
def C0 : Go.Proofs.Ythppkofceancjaa.Ctx := ⟨default, fun _ _ => False⟩
section
variable {P : Program} {n : Nat} {C : InF.Ctx} {c : Code} {s : List K} {L : List (Nat × Value)} {w : World} {M Mb : Hp} {X : Fr} {H Hb : List Rs} {l : Array Bool} {f : Nat}
def sk (P : Program) (C : InF.Ctx) (s : List K) : List K := [.lp fun a w => InF.post P C s .normal a w]
theorem sk_panic {ch : List PanicEntry} {a : Act} {w : World} (h : Go.Proofs.Ythppkofceancjaa.post P C0 (sk P C s) (.panic ch) a w) : False := h.2
theorem sk_out (h : LetsOut (Go.Proofs.Ythppkofceancjaa.post P C0 (sk P C s))) : False := by
  obtain ⟨a, w, h⟩ := h
  exact h
theorem oper_in0 {o : Oper} {a : Act} {w : World} {next : Act → World → Prop} (hnd : ∀ c, o.op ≠ .defer c) (h : o.wp P a w next (Go.Proofs.Ythppkofceancjaa.post P C0 (sk P C s))) : o.wpIn C.F 0 P a w next (InF.post P C s) := by
  refine ⟨fun f _ => C.F_fn f, ?_⟩
  rw [Oper.semAt_eq _ _ _ hnd]
  unfold Oper.wp at h
  generalize (execOp a.eval o).run P w = r at h
  cases r with
  | ok nx w' =>
    cases nx with
    | value v => exact h
    | skip => exact h
    | defer d => exact h
    | enter f args =>
      refine ⟨C.F_isSome, callsF C (Calls.mono h ?_)⟩
      rintro e w2 hh
      cases e with
      | returned v => exact hh
      | panicked chain => exact (sk_panic hh).elim
      | outgrown => exact (sk_out hh).elim
    | row row args => exact ⟨C.F_isSome, rowsF C h⟩
    | _ => exact h.elim
  | halt x w' =>
    cases x with
    | panic v => exact (sk_panic h).elim
    | _ => exact h.elim
theorem wpOp_in0 {ops : Array Oper} {j : Nat} {K : Act → World → Prop} {a : Act} {w : World} (hnd : ops.toList.all ndOp = true) (h : wpOp P ops (Go.Proofs.Ythppkofceancjaa.post P C0 (sk P C s)) j K a w) : wpOpIn C.F 0 P ops (InF.post P C s) j K a w := by
  unfold wpOp at h
  unfold wpOpIn
  cases ho : ops[j]? with
  | none => simp only [ho] at h ⊢; exact h
  | some o =>
    simp only [ho] at h ⊢
    split
    · rename_i hw
      simp only [hw, if_true] at h
      rcases h with h | ⟨_, h⟩
      · refine oper_in0 (ndOp_spec ?_) h
        obtain ⟨hj, e⟩ := Array.getElem?_eq_some_iff.1 ho
        exact List.all_eq_true.1 hnd o (by rw [← e]; exact Array.getElem_mem_toList hj)
      · exact (sk_out h).elim
    · rename_i hw
      simp only [hw] at h
      exact ⟨fun f _ => C.F_fn f, h⟩
theorem anyIn {ops : Array Oper} {md : Region.Mode} (hnd : ops.toList.all ndOp = true) : ∀ (f : Nat) (l : Array Bool) (a : Act) (Mb : Hp) (Hb : List Rs) (M : Hp) (H : List Rs) (w : World), SH w M X H → Down md ops l → AnyM P md ops (Go.Proofs.Ythppkofceancjaa.post P C0 (sk P C s)) X f l a Mb Hb M H → wpAnyIn C.F 0 P md ops (InF.post P C s) f l a w := by
  intro f
  induction f with
  | zero => intro l a Mb Hb M H w S _ h; exact h w S
  | succ f ih =>
    intro l a Mb Hb M H w S hd h
    obtain ⟨h0, h1⟩ := h w S hd
    refine ⟨h0, fun j hj => wpOpIn_mono (fun a2 w2 hc => ?_) (wpOp_in0 hnd (h1 j hj))⟩
    obtain ⟨M2, H2, S2, ⟨_, hc⟩ | ⟨_, hc⟩⟩ := hc
    · exact ih _ _ _ _ _ _ _ S2 (down_set hd hj) hc
    · exact ih _ _ _ _ _ _ _ S2 (down_set hd hj) hc
theorem ws_draw (hk : kind c = 8) (hm : P.follows .mixedOrders = true) (S : SH w M X H) (f : Nat) (hf : (rg c).size = f) (h : WA P n C0 c (sk P C s) X f (Array.replicate f false) L M H M H) (hnd : (rg c).toList.all ndOp = true := by rfl) : InF.WS P n C c s L w := by
  intro a ha
  rw [kind_draw hk]
  refine wpIn_region_any hm ?_
  rw [hf]
  exact anyIn hnd _ _ _ _ _ _ _ _ (S.kp ⟨rfl, rfl, rfl, Nat.le_refl _⟩ fun _ _ => rfl) (down_start _) (h (Grown.refl _ _) a ha)
theorem ws_drawN (N Hb : List Rs) (hk : kind c = 8) (hm : P.follows .mixedOrders = true) (S : SH w M X (N ++ Hb)) (f : Nat) (hf : (rg c).size = f) (h : WA P n C0 c (sk P C s) X f (Array.replicate f false) L M Hb M (N ++ Hb)) (hnd : (rg c).toList.all ndOp = true := by rfl) : InF.WS P n C c s L w := by
  intro a ha
  rw [kind_draw hk]
  refine wpIn_region_any hm ?_
  rw [hf]
  exact anyIn hnd _ _ _ _ _ _ _ _ (S.kp ⟨rfl, rfl, rfl, Nat.le_refl _⟩ fun _ _ => rfl) (down_start _) (h ⟨Hp.le_refl _, N, rfl⟩ a ha)
theorem wa_end (hr : Region.ready .any (rg c) l = []) (h : ∀ w, SH w M X H → InF.NM P n C s L w) : WA P n C0 c (sk P C s) X f l L Mb Hb M H :=
  Go.Proofs.Ythppkofceancjaa.wa_end hr fun w S a ha => h w S a ha
end
end InF
/-- A slot told in other words, in a drawn region. -/
theorem wa_eq {P : Program} {n : Nat} {C : Ctx} {c : Code} {s : List K} {X : Fr} {f : Nat} {l : Array Bool} {L : List (Nat × Value)} {M Mb : Hp} {H Hb : List Rs} (t : Nat) {v : Value} (v' : Value) (hl : lk L t = some v) (e : v = v') (h : WA P n C c s X f l ((t, v') :: L) Mb Hb M H) : WA P n C c s X f l L Mb Hb M H := by
  subst e
  exact fun hg a ha => h hg a ⟨ha.sz, ha.df, fun u x hx => by
    rw [lk_cons] at hx
    split at hx
    · rename_i e; subst e; injection hx with hx; subst hx; exact ha.at_ _ _ hl
    · exact ha.at_ _ _ hx⟩
end Go.Proofs.Ythppkofceancjaa
namespace Go.Proofs.Ythppkofceancjaa
open Go.ChangeShapes Go.WideShapes Go.ChangeAt Go.RowKit
theorem one_iff {d : Dg} (h : arcsB d = true) : (pcsL d).length = 1 ↔ (0 < d.crs.length ∧ ∀ x, x < d.crs.length → ga (whoL d) x = 0) := by
 constructor
 ·intro h1
  obtain ⟨_, c0, hc0, _⟩ := (pcs h).el 0 (by show 0 < (pcsL d).length; omega)
  refine ⟨by omega, fun x hx => ?_⟩
  obtain ⟨z, _, hz, _, hmin⟩ := whoL_law h x hx
  have a1 := (pcI_lt h hx).1
  have a2 := (pcI_lt h (x := 0) (by omega)).1
  have := hmin 0 (by omega) (by omega)
  rw [hz]
  omega
 ·rintro ⟨h0, hall⟩
  have key : ∀ i, i < (pcsL d).length → i = pcI d 0 := fun i hi => by
   obtain ⟨_, c0, hc0, hm, _⟩ := (pcs h).el i hi
   have e := (pcI_at h hi hm).2
   have e2 := (who_root h hc0 (z := 0) (hall c0 hc0)).2.1
   omega
  have a2 := (pcI_lt h h0).1
  have k0 := key 0 (by omega)
  rcases Nat.lt_or_ge 1 (pcsL d).length with h1 | h1
  ·have := key 1 h1; omega
  ·omega
def oneB (d : Dg) : Bool := decide ((pcsL d).length = 1 ∧ d.loops = 0)
theorem oneB_f {d : Dg} (h : arcsB d = true) {i : Nat} (hi : i < d.crs.length) (hne : ga (whoL d) i ≠ 0) : oneB d = false := by
 unfold oneB
 rw [decide_eq_false_iff_not]
 rintro ⟨h1, _⟩
 exact hne (((one_iff h).1 h1).2 i hi)
theorem oneB_t {d : Dg} (h : arcsB d = true) (hall : ∀ i, i < d.crs.length → ga (whoL d) i = 0) : oneB d = decide (0 < d.crs.length ∧ d.loops = 0) := by
 unfold oneB
 rw [decide_eq_decide, one_iff h]
 exact ⟨fun ⟨⟨a, _⟩, b⟩ => ⟨a, b⟩, fun ⟨a, b⟩ => ⟨⟨a, hall⟩, b⟩⟩
noncomputable def OnePiece_n0 : Code := Try.f15.body.getD .skip
noncomputable def OnePiece_n1 : Code := cL OnePiece_n0
noncomputable def OnePiece_n2 : Code := cR OnePiece_n0
noncomputable def OnePiece_n3 : Code := cL OnePiece_n2
noncomputable def OnePiece_n4 : Code := cR OnePiece_n2
noncomputable def OnePiece_n5 : Code := cL OnePiece_n4
noncomputable def OnePiece_n6 : Code := cR OnePiece_n4
noncomputable def OnePiece_n7 : Code := cL OnePiece_n5
noncomputable def OnePiece_n8 : Code := cR OnePiece_n5
noncomputable def OnePiece_n9 : Code := cL OnePiece_n8
noncomputable def OnePiece_n10 : Code := cL OnePiece_n9
noncomputable def OnePiece_n11 : Code := cL OnePiece_n10
noncomputable def OnePiece_n12 : Code := cR OnePiece_n10
noncomputable def OnePiece_n13 : Code := cL OnePiece_n11
noncomputable def OnePiece_n14 : Code := cR OnePiece_n11
noncomputable def OnePiece_n15 : Code := cL OnePiece_n14
noncomputable def OnePiece_n16 : Code := cR OnePiece_n14
noncomputable def OnePiece_n17 : Code := cL OnePiece_n12
noncomputable def OnePiece_n18 : Code := cR OnePiece_n12
noncomputable def OnePiece_n19 : Code := cL OnePiece_n17
noncomputable def OnePiece_n20 : Code := cL OnePiece_n19
noncomputable def OnePiece_n21 : Code := cR OnePiece_n19
noncomputable def OnePiece_n22 : Code := cL OnePiece_n21
noncomputable def OnePiece_n23 : Code := cR OnePiece_n21
noncomputable def OnePiece_n24 : Code := cL OnePiece_n22
noncomputable def OnePiece_n25 : Code := cR OnePiece_n22
noncomputable def OnePiece_n26 : Code := cL OnePiece_n6
noncomputable def OnePiece_n27 : Code := cR OnePiece_n6
set_option maxRecDepth 10000 in
theorem OnePiece_t {w : World} {M : Hp} {X : Fr} (d : Dg) {dcrsA : Option Addr} {dcrsc : Nat} (hdcrs : RdA cdCr (M.un X.h) dcrsA dcrsc d.crs) (hn : d.crs.length ≤ 16) (hab : arcsB d = true) (S : SH w M X []) : Ct Try.prog 15 [.agg [.slice dcrsA d.crs.length dcrsc, .int .i64 d.loops].toArray] w M X (fun u _ => u = .bool (oneB d)) := by
 unfold Ct
 have rmhdcrs : d.crs.length * 40 ≤ 140737488355328 := hdcrs.room
 have hwl := rndsW_len d d.crs.length
 replace hwl : (whoL d).length = d.crs.length := hwl
 refine calls_in (b := OnePiece_n0) Try.func15 rfl Try.ntmps15 rfl (fun C hC => (ws_sub [(0, _)] ⟨rfl, trivial⟩ (ws_seqN OnePiece_n1 OnePiece_n2 rfl rfl rfl (ws_region rfl (wlo 0 1 rfl rfl rfl (wo_box (l := [_, _]) rfl rfl rfl rfl rfl S ?_))))))
 intro gb1 w1 S1; clear S
 refine wla 1 2 rfl rfl rfl rfl rfl rfl rfl (wl_end rfl (nmk [1] rfl (nm_thn (ws_seqN OnePiece_n3 OnePiece_n4 rfl rfl rfl ?_))))
 refine ws_region rfl (wlo 0 1 rfl rfl rfl (wo_run rfl rfl (run_loadN (us := [_, _]) rfl rfl Try.underlying24 rfl sz24 (S1.boxcs (i := 0) rfl ⟨rfl, rfl, trivial⟩)) (wlo 1 2 rfl rfl rfl (wo_ct rfl rfl rfl rfl rfl rfl rfl cf25 S1 (PiecesOf_t d (hdcrs.mono S1.un_XH) (hn) (hab) S1.lend) ?_))))
 intro vw2 w2 M1 hle1 S2 hRw2; clear S1
 replace hdcrs := hdcrs.mono (Hp.un_mono hle1 S2.mx)
 obtain ⟨A1, c1, rfl, hr1⟩ := hRw2
 refine wla 2 3 rfl rfl rfl rfl rfl rfl rfl (wl_end rfl (nmk [1, 3] rfl (nm_thn (ws_seqN OnePiece_n5 OnePiece_n6 rfl rfl rfl ?_))))
 refine ws_seqN OnePiece_n7 OnePiece_n8 rfl rfl rfl (ws_region rfl (wla 0 1 rfl rfl rfl rfl rfl rfl rfl (wl_end rfl (nm_thn ?_))))
 refine ws_blockN OnePiece_n9 0 rfl rfl rfl ?_
 refine ws_loopE (fun mx_ ax_ wx_ => ∃ (i : Nat), mx_ = (whoL d).length - i ∧ Env 26 [(1, .pointer (some ⟨gb1, 0, none⟩)), (3, .slice A1 (whoL d).length c1), (4, .int .i64 (i : Int))] ax_ ∧ SH wx_ M1 X [Rs.box gb1 24 [.slice dcrsA d.crs.length dcrsc, .int .i64 d.loops]] ∧ i ≤ (whoL d).length ∧ (∀ j, j < i → ga (whoL d) j = 0)) rfl ?_ ?_
 ·intro ax_ hax_
  refine ⟨_, ⟨0, rfl, hax_.sub ⟨rfl, rfl, rfl, trivial⟩, S2.pick [0] [_] (by decide) ⟨rfl, trivial⟩, ?hq1f0, ?hq1f1⟩⟩
  case hq1f0 => omega
  case hq1f1 => (intro j hj; omega)
 ·rintro m1 a1 w3 ⟨i, rfl, he1, S3, hi, hall⟩
  clear S2
  refine ws_in he1 (c := OnePiece_n10) rfl ?_
  clear he1 a1
  refine ws_seqN OnePiece_n11 OnePiece_n12 rfl rfl rfl (ws_seqN OnePiece_n13 OnePiece_n14 rfl rfl rfl (ws_region rfl (wlm 0 1 rfl rfl rfl rfl rfl rfl rfl (wlm 1 2 rfl rfl rfl rfl rfl rfl rfl ?_))))
  refine wlo 2 3 rfl rfl rfl (wo_run rfl rfl (run_len rfl rfl rfl rfl rfl rfl Try.underlying25) (wlo 3 4 rfl rfl rfl (wo_run rfl rfl (run_lss rfl rfl rfl) (wl_end rfl (nmk [1, 3, 4, 10] rfl (nm_thn ?_))))))
  refine ws_condN OnePiece_n15 OnePiece_n16 rfl rfl rfl rfl (fun hb10 => ?_) (fun hb10 => ?_)
  ·replace hb10 := of_decide_eq_true hb10
   refine ws_skip rfl (nmk [1, 3, 4] rfl (nm_thn (ws_seqN OnePiece_n17 OnePiece_n18 rfl rfl rfl (ws_blockN OnePiece_n19 1 rfl rfl rfl ?_))))
   refine ws_seqN OnePiece_n20 OnePiece_n21 rfl rfl rfl (ws_region rfl (wlm 0 1 rfl rfl rfl rfl rfl rfl rfl (wlm 1 2 rfl rfl rfl rfl rfl rfl rfl (wlo 2 3 rfl rfl rfl (wo_run rfl rfl (run_indexM (C := cdInt) i rfl rfl rfl sl25 (by first | rfl | omega) hr1 (by first | omega | (simp only [lens]; omega))) ?_)))))
   refine wlo 3 4 rfl rfl rfl (wo_run rfl rfl (run_load1 rfl rfl Try.underlying3 rfl (hr1.cell S3.m (i := i) (by first | omega | (simp only [lens]; omega)) 0 rfl rfl)) ?_)
   refine wlo 4 5 rfl rfl rfl (wo_run rfl rfl (run_neq rfl rfl rfl) (wl_end rfl (nmk [1, 3, 4, 17] rfl (nm_thn ?_))))
   refine ws_condN OnePiece_n22 OnePiece_n23 rfl rfl rfl rfl (fun hb17 => ?_) (fun hb17 => ?_)
   ·replace hb17 := of_decide_eq_true hb17
    refine ws_seqN OnePiece_n24 OnePiece_n25 rfl rfl rfl (ws_region rfl (wla 0 1 rfl rfl rfl rfl rfl rfl rfl (wl_end rfl (nmk [2] rfl ?_))))
    refine nm_thn (ws_ret hC [_] rfl rfl ⟨rfl, trivial⟩ ?_)
    refine ⟨_, rfl, _, hle1, (S3.pick [] [] (by decide) trivial), ?_⟩
    show Value.bool _ = _
    refine congrArg Value.bool ?_
    first | exact (oneB_f hab (i := i) (by omega) (by omega)).symm | (rw [oneB_t hab (fun j hj => hall j (by omega))]; first | (symm; rw [decide_eq_false_iff_not]; omega) | (rw [decide_eq_decide]; omega) | (symm; rw [decide_eq_true_iff]; omega))
   ·replace hb17 := of_decide_eq_false hb17
    refine ws_skip rfl (nm_blk (nmk [1, 3, 4] rfl (nm_thn (ws_region rfl ?_))))
    refine wlm 0 1 rfl rfl rfl rfl rfl rfl rfl (wlo 1 2 rfl rfl rfl (wo_run rfl rfl (run_add rfl rfl rfl (by first | omega | (simp only [lens]; omega))) ?_))
    refine wla 2 3 rfl rfl rfl rfl rfl rfl rfl (wl_end rfl (nm_lp ?_))
    intro ax_ hax_
    refine ⟨_, ?hq2m, ⟨i + 1, rfl, hax_.sub ⟨rfl, rfl, rfl, trivial⟩, S3.pick [0] [_] (by decide) ⟨rfl, trivial⟩, ?hq2f0, ?hq2f1⟩⟩
    case hq2f0 => omega
    case hq2f1 => (intro j hj; by_cases e : j = i; (subst e; omega); exact hall j (by omega))
    case hq2m => omega
  ·replace hb10 := of_decide_eq_false hb10
   refine ws_exit rfl rfl (nmk [1, 3] rfl (nm_thn (ws_seqN OnePiece_n26 OnePiece_n27 rfl rfl rfl (ws_region rfl ?_))))
   refine wlm 0 1 rfl rfl rfl rfl rfl rfl rfl (wlo 1 2 rfl rfl rfl (wo_run rfl rfl (run_len rfl rfl rfl rfl rfl rfl Try.underlying25) (wlo 2 3 rfl rfl rfl (wo_run rfl rfl (run_gtr rfl rfl rfl) (wlm 3 4 rfl rfl rfl rfl rfl rfl rfl ?_)))))
   refine wl_split (t := 21) rfl (fun hg21 => ?_) (fun hg21 => ?_)
   ·replace hg21 := of_decide_eq_true hg21
    refine wlg 4 5 rfl rfl rfl rfl rfl rfl rfl rfl (wo_run rfl rfl (run_fieldAddr rfl rfl Try.underlying24 rfl (ce3) (nf3)) (wlg 5 6 rfl rfl rfl rfl rfl rfl rfl rfl (wo_run rfl rfl (run_load1 rfl rfl Try.underlying3 rfl (S3.boxc (i := 0) rfl rfl)) (wlg 6 7 rfl rfl rfl rfl rfl rfl rfl rfl (wo_run rfl rfl (run_eql rfl rfl rfl) (wlo 7 8 rfl rfl rfl (wo_run rfl rfl (run_pickT rfl rfl rfl) (wla 8 9 rfl rfl rfl rfl rfl rfl rfl ?_))))))))
    refine wl_end rfl (nmk [2] rfl (nm_thn (ws_ret hC [_] rfl rfl ⟨rfl, trivial⟩ ?_)))
    refine ⟨_, rfl, _, hle1, (S3.pick [] [] (by decide) trivial), ?_⟩
    show Value.bool _ = _
    refine congrArg Value.bool ?_
    first | exact (oneB_f hab (i := i) (by omega) (by omega)).symm | (rw [oneB_t hab (fun j hj => hall j (by omega))]; first | (symm; rw [decide_eq_false_iff_not]; omega) | (rw [decide_eq_decide]; omega) | (symm; rw [decide_eq_true_iff]; omega))
   ·replace hg21 := of_decide_eq_false hg21
    refine wln 4 5 rfl rfl rfl rfl rfl rfl rfl rfl rfl (wln 5 6 rfl rfl rfl rfl rfl rfl rfl rfl rfl (wln 6 7 rfl rfl rfl rfl rfl rfl rfl rfl rfl (wlo 7 8 rfl rfl rfl (wo_run rfl rfl (run_pickF rfl rfl rfl) (wla 8 9 rfl rfl rfl rfl rfl rfl rfl ?_)))))
    refine wl_end rfl (nmk [2] rfl (nm_thn (ws_ret hC [_] rfl rfl ⟨rfl, trivial⟩ ?_)))
    refine ⟨_, rfl, _, hle1, (S3.pick [] [] (by decide) trivial), ?_⟩
    show Value.bool _ = _
    refine congrArg Value.bool ?_
    first | exact (oneB_f hab (i := i) (by omega) (by omega)).symm | (rw [oneB_t hab (fun j hj => hall j (by omega))]; first | (symm; rw [decide_eq_false_iff_not]; omega) | (rw [decide_eq_decide]; omega) | (symm; rw [decide_eq_true_iff]; omega))
theorem oneB_iff {d : Dg} : oneB d = true ↔ (pcsL d).length = 1 ∧ d.loops = 0 := by unfold oneB; rw [decide_eq_true_iff]
theorem okS_of {d : Dg} (h : errO d = 0) (h1 : oneB d = true) : OkS d := by
 obtain ⟨h2, h3⟩ := errO_ok h
 exact ⟨(mayO h2).2.1, (oneB_iff.1 h1).1, h3⟩
theorem fcs_face {d : Dg} {i : Nat} (hi : i < (facesL d).length) : i < (fcsC d).length ∧ ga (facesL d) i = dasL (ga (fcsC d) i) := by
 rw [facesL_C, List.length_map] at hi
 exact ⟨hi, by rw [facesL_C, ga_map _ _ _ hi]⟩
theorem dasL_ga {r : List Int} {k : Nat} (hk : k < (dasL r).length) : k < r.length ∧ ga (dasL r) k = dA (ga r k).toNat := by
 have hk' : k < r.length := by unfold dasL at hk; rwa [List.length_map] at hk
 exact ⟨hk', by unfold dasL; rw [ga_map _ _ _ hk']⟩
theorem fc_hit {d : Dg} (h : arcsB d = true) {i k : Nat} (hi : i < (facesL d).length) (hk : k < (ga (facesL d) i).length) : rgC d (dcN (ga (ga (facesL d) i) k)) ∧ fcI d (dcN (ga (ga (facesL d) i) k)) = i ∧ okD d (ga (ga (facesL d) i) k) := by
 obtain ⟨h1, h2⟩ := fcs_face hi
 rw [h2] at hk ⊢
 obtain ⟨h3, h4⟩ := dasL_ga hk
 rw [h4]
 have hm := ga_mem h3
 obtain ⟨c, e, hc⟩ := ((facesN_marks h _ (Nat.le_refl _)).2.2 (ga (fcsC d) i) (ga_mem h1)).2 _ hm
 rw [e, Int.toNat_natCast, dcN_dA]
 exact ⟨hc, fcI_eq h hc h1 (by rw [← e]; exact hm), dA_ok hc⟩
theorem fc_all {d : Dg} (h : arcsB d = true) {x : Da} (hx : okD d x) : ∃ k, fcI d (dcN x) < (facesL d).length ∧ k < (ga (facesL d) (fcI d (dcN x))).length ∧ ga (ga (facesL d) (fcI d (dcN x))) k = x := by
 obtain ⟨h1, h2⟩ := fcI_at h (dcN_rng hx)
 obtain ⟨k, hk, e⟩ := List.mem_iff_getElem.1 h2
 have hf : fcI d (dcN x) < (facesL d).length := by rw [facesL_C, List.length_map]; exact h1
 have hl : k < (dasL (ga (fcsC d) (fcI d (dcN x)))).length := by unfold dasL; rw [List.length_map]; exact hk
 refine ⟨k, hf, by rw [(fcs_face hf).2]; exact hl, ?_⟩
 rw [(fcs_face hf).2, (dasL_ga hl).2, ga_eq hk, e, Int.toNat_natCast]
 exact dA_dcN (by have := hx.1; omega)
theorem fcJ_spot (d : Dg) {c k : Nat} (hk : k < 4) : fcJ d (4 * c + k) = fcI d (dcN ⟨arcAt d c k, entryB d c k⟩) := by
 unfold fcJ outD arcJ
 rw [show (4 * c + k) / 4 = c by omega, show (4 * c + k) % 4 = k by omega]
noncomputable def faceAt_n0 : Code := Try.f17.body.getD .skip
noncomputable def faceAt_n1 : Code := cL faceAt_n0
noncomputable def faceAt_n2 : Code := cR faceAt_n0
noncomputable def faceAt_n3 : Code := cL faceAt_n2
noncomputable def faceAt_n4 : Code := cR faceAt_n2
noncomputable def faceAt_n5 : Code := cL faceAt_n4
noncomputable def faceAt_n6 : Code := cR faceAt_n4
noncomputable def faceAt_n7 : Code := cL faceAt_n5
noncomputable def faceAt_n8 : Code := cR faceAt_n5
noncomputable def faceAt_n9 : Code := cL faceAt_n8
noncomputable def faceAt_n10 : Code := cL faceAt_n9
noncomputable def faceAt_n11 : Code := cL faceAt_n10
noncomputable def faceAt_n12 : Code := cR faceAt_n10
noncomputable def faceAt_n13 : Code := cL faceAt_n11
noncomputable def faceAt_n14 : Code := cR faceAt_n11
noncomputable def faceAt_n15 : Code := cL faceAt_n14
noncomputable def faceAt_n16 : Code := cR faceAt_n14
noncomputable def faceAt_n17 : Code := cL faceAt_n12
noncomputable def faceAt_n18 : Code := cR faceAt_n12
noncomputable def faceAt_n19 : Code := cL faceAt_n17
noncomputable def faceAt_n20 : Code := cL faceAt_n19
noncomputable def faceAt_n21 : Code := cR faceAt_n19
noncomputable def faceAt_n22 : Code := cL faceAt_n21
noncomputable def faceAt_n23 : Code := cL faceAt_n22
noncomputable def faceAt_n24 : Code := cL faceAt_n23
noncomputable def faceAt_n25 : Code := cR faceAt_n23
noncomputable def faceAt_n26 : Code := cL faceAt_n24
noncomputable def faceAt_n27 : Code := cR faceAt_n24
noncomputable def faceAt_n28 : Code := cL faceAt_n27
noncomputable def faceAt_n29 : Code := cR faceAt_n27
noncomputable def faceAt_n30 : Code := cL faceAt_n25
noncomputable def faceAt_n31 : Code := cR faceAt_n25
noncomputable def faceAt_n32 : Code := cL faceAt_n30
noncomputable def faceAt_n33 : Code := cL faceAt_n32
noncomputable def faceAt_n34 : Code := cR faceAt_n32
noncomputable def faceAt_n35 : Code := cL faceAt_n34
noncomputable def faceAt_n36 : Code := cR faceAt_n34
noncomputable def faceAt_n37 : Code := cL faceAt_n35
noncomputable def faceAt_n38 : Code := cR faceAt_n35
noncomputable def faceAt_n39 : Code := cL faceAt_n6
noncomputable def faceAt_n40 : Code := cR faceAt_n6
set_option maxHeartbeats 1000000 in
set_option maxRecDepth 10000 in
theorem faceAt_q {w : World} {M : Hp} {X : Fr} (f : List (List Da)) {fA : Option Addr} {fc : Nat} {fv : List SlV} (d : Dg) {dcrsA : Option Addr} {dcrsc : Nat} (c k : Nat) (hf : RdA (cdV 63) (M.un X.h) fA fc fv) (hdf : Rd2 cdDa (M.un X.h) fv f) (hdcrs : RdA cdCr (M.un X.h) dcrsA dcrsc d.crs) (hf9 : f = facesL d) (hn : d.crs.length ≤ 16) (hab : arcsB d = true) (hc : c < d.crs.length) (hk : k < 4) (S : SH w M X []) : Cq Try.prog 17 [.slice fA fv.length fc, .agg [.slice dcrsA d.crs.length dcrsc, .int .i64 d.loops].toArray, .agg [.int .i64 (c : Int), .int .i64 (k : Int)].toArray] w M X (fun u => u = .int .i64 (fcJ d (4 * c + k) : Int)) := by
 unfold Cq
 have rmhf : fv.length * 24 ≤ 140737488355328 := hf.room
 have rmhdcrs : d.crs.length * 40 ≤ 140737488355328 := hdcrs.room
 have hfv := hdf.1
 have hbd := arcAt_bd hab hc hk
 have hok : okD d (⟨arcAt d c k, entryB d c k⟩ : Da) := hbd
 obtain ⟨q0, hA1, hA2, hA3⟩ := fc_all hab hok
 rw [← fcJ_spot d hk] at hA1 hA2 hA3
 rw [← hf9] at hA1 hA2 hA3
 refine calls_in (b := faceAt_n0) Try.func17 rfl Try.ntmps17 rfl (fun C hC => (ws_sub [(0, _), (1, _), (2, _)] ⟨rfl, rfl, rfl, trivial⟩ (ws_seqN faceAt_n1 faceAt_n2 rfl rfl rfl (ws_region rfl (wlo 0 1 rfl rfl rfl (wo_box (l := [_, _]) rfl rfl rfl rfl rfl S ?_))))))
 intro gb1 w1 S1; clear S
 refine wlo 1 2 rfl rfl rfl (wo_box (l := [_, _]) rfl rfl rfl rfl rfl S1 ?_)
 intro gb2 w2 S2; clear S1
 refine wla 2 3 rfl rfl rfl rfl rfl rfl rfl (wl_end rfl (nmk [0, 4, 5] rfl (nm_thn (ws_seqN faceAt_n3 faceAt_n4 rfl rfl rfl ?_))))
 refine ws_draw rfl (by kernel_rfl) S2 9 rfl ?_
 clear S2
 refine wat 0 8 rfl (by kernel_rfl) rfl rfl rfl (fun M1 N1 w3 hle1 S3 => .inl (run_loadN (us := [_, _]) rfl rfl Try.underlying24 rfl sz24 (S3.suf.boxcs (i := 1) rfl ⟨rfl, rfl, trivial⟩))) ?_
 refine wat 1 7 rfl (by kernel_rfl) rfl rfl rfl (fun M2 N2 w4 hle2 S4 => .inl (run_loadN (us := [_, _]) rfl rfl Try.underlying53 rfl sz53 (S4.suf.boxcs (i := 0) rfl ⟨rfl, rfl, trivial⟩))) ?_
 refine wat 2 6 rfl (by kernel_rfl) rfl rfl rfl (fun M3 N3 w5 hle3 S5 => yield_cq rfl rfl rfl rfl rfl cf28 S5 (ArcAt_q d c k ((hdcrs.mono (Hp.un_mono hle3 S5.mx)).mono S5.un_XH) (by omega) (by omega) S5.lend)) ?_
 refine wat 3 5 rfl (by kernel_rfl) rfl rfl rfl (fun M4 N4 w6 hle4 S6 => .inl (run_loadN (us := [_, _]) rfl rfl Try.underlying24 rfl sz24 (S6.suf.boxcs (i := 1) rfl ⟨rfl, rfl, trivial⟩))) ?_
 refine wat 4 4 rfl (by kernel_rfl) rfl rfl rfl (fun M5 N5 w7 hle5 S7 => .inl (run_loadN (us := [_, _]) rfl rfl Try.underlying53 rfl sz53 (S7.suf.boxcs (i := 0) rfl ⟨rfl, rfl, trivial⟩))) ?_
 refine wat 5 3 rfl (by kernel_rfl) rfl rfl rfl (fun M6 N6 w8 hle6 S8 => yield_cq rfl rfl rfl rfl rfl cf29 S8 (Entry_q d c k ((hdcrs.mono (Hp.un_mono hle6 S8.mx)).mono S8.un_XH) (by omega) (by omega) S8.lend)) ?_
 refine wat 6 2 rfl (by kernel_rfl) rfl rfl rfl (fun M7 N7 w9 hle7 S9 => .inl (run_build (l := [_, _]) rfl rfl st65 rfl rfl)) ?_
 refine wa_only (i := 7) 1 rfl (by kernel_rfl) rfl rfl (fun w11 S11 => ?_)
 refine (wo_alloc (l := [_, _]) rfl rfl rfl zr65 rfl S11 ?_)
 intro gb3 w12 S12; clear S11
 refine LeftW.grow [_] (Hp.le_refl _) S12 ?_; clear S12
 change WA _ _ _ _ _ _ _ _ _ _ _ _ [_, _, _]
 refine wa_only (i := 8) 0 rfl (by kernel_rfl) rfl rfl (fun w14 S14 => ?_)
 refine (wo_storeB (i := 0) (us := [_, _]) (l' := [_, _]) (H' := [_, _, _]) rfl rfl S14 rfl rfl rfl rfl sz65 rfl rfl rfl rfl ?_)
 intro w15 S15; clear S14
 refine LeftW.grow [_] (Hp.le_refl _) S15 ?_; clear S15
 change WA _ _ _ _ _ _ _ _ _ _ _ _ [_, _, _]
 refine wa_end (by kernel_rfl) (fun w16 S16 => ?_)
 refine nmk [0, 7] rfl (nm_thn (ws_seqN faceAt_n5 faceAt_n6 rfl rfl rfl (ws_seqN faceAt_n7 faceAt_n8 rfl rfl rfl (ws_region rfl ?_))))
 refine wla 0 1 rfl rfl rfl rfl rfl rfl rfl (wl_end rfl (nm_thn (ws_blockN faceAt_n9 0 rfl rfl rfl ?_)))
 refine ws_loopE (fun mx_ ax_ wx_ => ∃ (i : Nat), mx_ = f.length - i ∧ Env 42 [(0, .slice fA fv.length fc), (7, .pointer (some ⟨gb3, 0, none⟩)), (8, .int .i64 (i : Int))] ax_ ∧ SH wx_ M X [Rs.box gb3 65 [.int .i64 (arcAt d c k), .bool (entryB d c k)]] ∧ i ≤ f.length ∧ (∀ q, q < i → ∀ r, r < (ga f q).length → ga (ga f q) r ≠ (⟨arcAt d c k, entryB d c k⟩ : Da))) rfl ?_ ?_
 ·intro ax_ hax_
  refine ⟨_, ⟨0, rfl, hax_.sub ⟨rfl, rfl, rfl, trivial⟩, S16.pick [0] [_] (by decide) ⟨rfl, trivial⟩, ?hq1f0, ?hq1f1⟩⟩
  case hq1f0 => omega
  case hq1f1 => (intro q hq; omega)
 ·rintro m1 a1 w17 ⟨i, rfl, he1, S17, hi, hno⟩
  clear S16
  refine ws_in he1 (c := faceAt_n10) rfl ?_
  clear he1 a1
  refine ws_seqN faceAt_n11 faceAt_n12 rfl rfl rfl (ws_seqN faceAt_n13 faceAt_n14 rfl rfl rfl (ws_region rfl (wlm 0 1 rfl rfl rfl rfl rfl rfl rfl (wlm 1 2 rfl rfl rfl rfl rfl rfl rfl ?_))))
  refine wlo 2 3 rfl rfl rfl (wo_run rfl rfl (run_len rfl rfl rfl rfl rfl rfl Try.underlying49) (wlo 3 4 rfl rfl rfl (wo_run rfl rfl (run_lss rfl rfl rfl) (wl_end rfl (nmk [0, 7, 8, 20] rfl (nm_thn ?_))))))
  refine ws_condN faceAt_n15 faceAt_n16 rfl rfl rfl rfl (fun hb20 => ?_) (fun hb20 => ?_)
  ·replace hb20 := of_decide_eq_true hb20
   refine ws_skip rfl (nmk [0, 7, 8] rfl (nm_thn (ws_seqN faceAt_n17 faceAt_n18 rfl rfl rfl (ws_blockN faceAt_n19 1 rfl rfl rfl ?_))))
   refine ws_seqN faceAt_n20 faceAt_n21 rfl rfl rfl (ws_region rfl (wla 0 1 rfl rfl rfl rfl rfl rfl rfl (wl_end rfl (nm_thn ?_))))
   refine ws_blockN faceAt_n22 2 rfl rfl rfl ?_
   refine ws_loopE (fun mx_ ax_ wx_ => ∃ (q : Nat), mx_ = (ga f i).length - q ∧ Env 42 [(0, .slice fA fv.length fc), (7, .pointer (some ⟨gb3, 0, none⟩)), (8, .int .i64 (i : Int)), (9, .int .i64 (q : Int))] ax_ ∧ SH wx_ M X [Rs.box gb3 65 [.int .i64 (arcAt d c k), .bool (entryB d c k)]] ∧ q ≤ (ga f i).length ∧ (∀ r, r < q → ga (ga f i) r ≠ (⟨arcAt d c k, entryB d c k⟩ : Da))) rfl ?_ ?_
   ·intro ax_ hax_
    refine ⟨_, ⟨0, rfl, hax_.sub ⟨rfl, rfl, rfl, rfl, trivial⟩, S17.pick [0] [_] (by decide) ⟨rfl, trivial⟩, ?hq2f0, ?hq2f1⟩⟩
    case hq2f0 => omega
    case hq2f1 => (intro r hr; omega)
   ·rintro m2 a2 w18 ⟨q, rfl, he2, S18, hq, hno2⟩
    clear S17
    refine ws_in he2 (c := faceAt_n23) rfl ?_
    clear he2 a2
    refine ws_seqN faceAt_n24 faceAt_n25 rfl rfl rfl (ws_seqN faceAt_n26 faceAt_n27 rfl rfl rfl (ws_region rfl (wlm 0 1 rfl rfl rfl rfl rfl rfl rfl (wlm 1 2 rfl rfl rfl rfl rfl rfl rfl ?_))))
    refine wlm 2 3 rfl rfl rfl rfl rfl rfl rfl (wlo 3 4 rfl rfl rfl (wo_run rfl rfl (run_indexM (C := (cdV 63)) i rfl rfl rfl sl49 (by first | rfl | omega) hf (by first | omega | (simp only [lens]; omega))) ?_))
    obtain ⟨hn1, hr1⟩ := hdf.2 i (by first | omega | (simp only [lens]; omega))
    have rmhr1 : (ga f i).length * 16 ≤ 140737488355328 := hr1.room
    refine wlo 4 5 rfl rfl rfl (wo_run rfl rfl (run_load1 rfl rfl Try.underlying63 rfl (hf.cell S18.um (i := i) (by first | omega | (simp only [lens]; omega)) 0 rfl (congrArg (fun n => some (Value.slice _ n _)) hn1))) ?_)
    refine wlo 5 6 rfl rfl rfl (wo_run rfl rfl (run_len rfl rfl rfl rfl rfl rfl Try.underlying63) (wlo 6 7 rfl rfl rfl (wo_run rfl rfl (run_lss rfl rfl rfl) (wl_end rfl (nmk [0, 7, 8, 9, 29] rfl (nm_thn ?_))))))
    refine ws_condN faceAt_n28 faceAt_n29 rfl rfl rfl rfl (fun hb29 => ?_) (fun hb29 => ?_)
    ·replace hb29 := of_decide_eq_true hb29
     refine ws_skip rfl (nmk [0, 7, 8, 9] rfl (nm_thn (ws_seqN faceAt_n30 faceAt_n31 rfl rfl rfl (ws_blockN faceAt_n32 3 rfl rfl rfl ?_))))
     refine ws_seqN faceAt_n33 faceAt_n34 rfl rfl rfl (ws_draw rfl (by kernel_rfl) S18 9 rfl ?_)
     clear S18
     refine wap 0 8 rfl (by kernel_rfl) rfl rfl rfl (fun w19 => run_move rfl rfl) ?_
     refine wap 1 7 rfl (by kernel_rfl) rfl rfl rfl (fun w20 => run_move rfl rfl) ?_
     refine wat 2 6 rfl (by kernel_rfl) rfl rfl rfl (fun M12 N12 w21 hle14 S21 => .inl (run_indexM (C := (cdV 63)) i rfl rfl rfl sl49 (by first | rfl | omega) (hf.mono (Hp.un_mono hle14 S21.mx)) (by first | omega | (simp only [lens]; omega)))) ?_
     obtain ⟨hn2, hr2⟩ := hdf.2 i (by first | omega | (simp only [lens]; omega))
     have rmhr2 : (ga f i).length * 16 ≤ 140737488355328 := hr2.room
     refine wat 3 5 rfl (by kernel_rfl) rfl rfl rfl (fun M13 N13 w22 hle15 S22 => .inl (run_load1 rfl rfl Try.underlying63 rfl ((hf.mono (Hp.un_mono hle15 S22.mx)).cell S22.um (i := i) (by first | omega | (simp only [lens]; omega)) 0 rfl (congrArg (fun n => some (Value.slice _ n _)) hn2)))) ?_
     refine wap 4 4 rfl (by kernel_rfl) rfl rfl rfl (fun w23 => run_move rfl rfl) ?_
     refine wat 5 3 rfl (by kernel_rfl) rfl rfl rfl (fun M15 N15 w24 hle17 S24 => .inl (run_indexM (C := cdDa) q rfl rfl rfl sl63 (by first | rfl | omega) (hr2.mono (Hp.un_mono hle17 S24.mx)) (by first | omega | (simp only [lens]; omega)))) ?_
     refine wat 6 2 rfl (by kernel_rfl) rfl rfl rfl (fun M16 N16 w25 hle18 S25 => .inl (run_loadN (us := [_, _]) rfl rfl Try.underlying65 rfl sz65 ((hr2.mono (Hp.un_mono hle18 S25.mx)).cellsAt S25.um (e := q) (by first | omega | (simp only [lens]; omega)) (j := 0) ⟨rfl, rfl, trivial⟩))) ?_
     refine wat 7 1 rfl (by kernel_rfl) rfl rfl rfl (fun M17 N17 w26 hle19 S26 => .inl (run_loadN (us := [_, _]) rfl rfl Try.underlying65 rfl sz65 (S26.suf.boxcs (i := 0) rfl ⟨rfl, rfl, trivial⟩))) ?_
     refine wap 8 0 rfl (by kernel_rfl) rfl rfl rfl (fun w27 => run_eqSt (Q := ((ga (ga f i) q).a) = (arcAt d c k) ∧ ((ga (ga f i) q).b) = (entryB d c k)) rfl rfl rfl se65 ⟨_, _, _, _, rfl, rfl, ⟨_, _, rfl, rfl, rfl⟩, rfl⟩) ?_
     refine wa_end (by kernel_rfl) (fun w28 S28 => ?_)
     refine nmk [0, 7, 8, 9, 40] rfl (nm_thn ?_)
     refine ws_condN faceAt_n35 faceAt_n36 rfl rfl rfl rfl (fun hb40 => ?_) (fun hb40 => ?_)
     ·replace hb40 := of_decide_eq_true hb40
      refine ws_seqN faceAt_n37 faceAt_n38 rfl rfl rfl (ws_region rfl (wlm 0 1 rfl rfl rfl rfl rfl rfl rfl (wla 1 2 rfl rfl rfl rfl rfl rfl rfl (wl_end rfl ?_))))
      refine nmk [6] rfl (nm_thn (ws_ret hC [_] rfl rfl ⟨rfl, trivial⟩ ?_))
      exact ⟨_, rfl, (S28.pick [] [] (by decide) trivial), (by show Value.int _ _ = _; refine congrArg (Value.int .i64) ?_; first | (have h9 := (fc_hit hab (i := i) (k := q) (by rw [← hf9]; omega) (by rw [← hf9]; omega)).2.1; rw [← hf9, show ga (ga f i) q = (⟨arcAt d c k, entryB d c k⟩ : Da) from (by cases e9 : ga (ga f i) q; rw [e9] at hb40; simp only at hb40; rw [hb40.1, hb40.2])] at h9; rw [fcJ_spot d hk, h9]) | exact absurd hA3 (hno _ (by omega) _ hA2))⟩
     ·replace hb40 := of_decide_eq_false hb40
      refine ws_skip rfl (nm_blk (nmk [0, 7, 8, 9] rfl (nm_thn (ws_region rfl ?_))))
      refine wlm 0 1 rfl rfl rfl rfl rfl rfl rfl (wlo 1 2 rfl rfl rfl (wo_run rfl rfl (run_add rfl rfl rfl (by first | omega | (simp only [lens]; omega))) ?_))
      refine wla 2 3 rfl rfl rfl rfl rfl rfl rfl (wl_end rfl (nm_lp ?_))
      intro ax_ hax_
      refine ⟨_, ?hq3m, ⟨q + 1, rfl, hax_.sub ⟨rfl, rfl, rfl, rfl, trivial⟩, S28.pick [0] [_] (by decide) ⟨rfl, trivial⟩, ?hq3f0, ?hq3f1⟩⟩
      case hq3f0 => omega
      case hq3f1 => (intro r hr; by_cases e : r = q; (subst e; intro e9; exact hb40 ⟨congrArg Da.a e9, congrArg Da.b e9⟩); exact hno2 r (by omega))
      case hq3m => omega
    ·replace hb29 := of_decide_eq_false hb29
     refine ws_exit rfl rfl (nm_blk (nmk [0, 7, 8] rfl (nm_thn (ws_region rfl ?_))))
     refine wlm 0 1 rfl rfl rfl rfl rfl rfl rfl (wlo 1 2 rfl rfl rfl (wo_run rfl rfl (run_add rfl rfl rfl (by first | omega | (simp only [lens]; omega))) ?_))
     refine wla 2 3 rfl rfl rfl rfl rfl rfl rfl (wl_end rfl (nm_lp ?_))
     intro ax_ hax_
     refine ⟨_, ?hq4m, ⟨i + 1, rfl, hax_.sub ⟨rfl, rfl, rfl, trivial⟩, S18.pick [0] [_] (by decide) ⟨rfl, trivial⟩, ?hq4f0, ?hq4f1⟩⟩
     case hq4f0 => omega
     case hq4f1 => (intro q hq; by_cases e : q = i; (subst e; intro r hr; exact hno2 r (by omega)); exact hno q (by omega))
     case hq4m => omega
  ·replace hb20 := of_decide_eq_false hb20
   refine ws_exit rfl rfl (nm_sub [] trivial (nm_thn (ws_seqN faceAt_n39 faceAt_n40 rfl rfl rfl (ws_region rfl ?_))))
   refine wla 0 1 rfl rfl rfl rfl rfl rfl rfl (wl_end rfl (nm_thn (ws_ret hC [_] rfl rfl ⟨rfl, trivial⟩ ?_)))
   exact ⟨_, rfl, (S17.pick [] [] (by decide) trivial), (by show Value.int _ _ = _; refine congrArg (Value.int .i64) ?_; first | (have h9 := (fc_hit hab (i := i) (k := q) (by rw [← hf9]; omega) (by rw [← hf9]; omega)).2.1; rw [← hf9, show ga (ga f i) q = (⟨arcAt d c k, entryB d c k⟩ : Da) from (by cases e9 : ga (ga f i) q; rw [e9] at hb40; simp only at hb40; rw [hb40.1, hb40.2])] at h9; rw [fcJ_spot d hk, h9]) | exact absurd hA3 (hno _ (by omega) _ hA2))⟩
noncomputable def ShadesOf_n0 : Code := Try.f9.body.getD .skip
noncomputable def ShadesOf_n1 : Code := cL ShadesOf_n0
noncomputable def ShadesOf_n2 : Code := cR ShadesOf_n0
noncomputable def ShadesOf_n3 : Code := cL ShadesOf_n2
noncomputable def ShadesOf_n4 : Code := cR ShadesOf_n2
noncomputable def ShadesOf_n5 : Code := cL ShadesOf_n4
noncomputable def ShadesOf_n6 : Code := cR ShadesOf_n4
noncomputable def ShadesOf_n7 : Code := cL ShadesOf_n6
noncomputable def ShadesOf_n8 : Code := cR ShadesOf_n6
noncomputable def ShadesOf_n9 : Code := cL ShadesOf_n7
noncomputable def ShadesOf_n10 : Code := cR ShadesOf_n7
noncomputable def ShadesOf_n11 : Code := cL ShadesOf_n10
noncomputable def ShadesOf_n12 : Code := cL ShadesOf_n11
noncomputable def ShadesOf_n13 : Code := cL ShadesOf_n12
noncomputable def ShadesOf_n14 : Code := cR ShadesOf_n12
noncomputable def ShadesOf_n15 : Code := cL ShadesOf_n13
noncomputable def ShadesOf_n16 : Code := cR ShadesOf_n13
noncomputable def ShadesOf_n17 : Code := cL ShadesOf_n16
noncomputable def ShadesOf_n18 : Code := cR ShadesOf_n16
noncomputable def ShadesOf_n19 : Code := cL ShadesOf_n14
noncomputable def ShadesOf_n20 : Code := cR ShadesOf_n14
noncomputable def ShadesOf_n21 : Code := cL ShadesOf_n19
noncomputable def ShadesOf_n22 : Code := cL ShadesOf_n8
noncomputable def ShadesOf_n23 : Code := cR ShadesOf_n8
noncomputable def ShadesOf_n24 : Code := cL ShadesOf_n23
noncomputable def ShadesOf_n25 : Code := cR ShadesOf_n23
noncomputable def ShadesOf_n26 : Code := cL ShadesOf_n24
noncomputable def ShadesOf_n27 : Code := cR ShadesOf_n24
noncomputable def ShadesOf_n28 : Code := cL ShadesOf_n27
noncomputable def ShadesOf_n29 : Code := cL ShadesOf_n28
noncomputable def ShadesOf_n30 : Code := cL ShadesOf_n29
noncomputable def ShadesOf_n31 : Code := cR ShadesOf_n29
noncomputable def ShadesOf_n32 : Code := cL ShadesOf_n30
noncomputable def ShadesOf_n33 : Code := cR ShadesOf_n30
noncomputable def ShadesOf_n34 : Code := cL ShadesOf_n33
noncomputable def ShadesOf_n35 : Code := cR ShadesOf_n33
noncomputable def ShadesOf_n36 : Code := cL ShadesOf_n31
noncomputable def ShadesOf_n37 : Code := cR ShadesOf_n31
noncomputable def ShadesOf_n38 : Code := cL ShadesOf_n36
noncomputable def ShadesOf_n39 : Code := cL ShadesOf_n38
noncomputable def ShadesOf_n40 : Code := cR ShadesOf_n38
noncomputable def ShadesOf_n41 : Code := cL ShadesOf_n40
noncomputable def ShadesOf_n42 : Code := cL ShadesOf_n41
noncomputable def ShadesOf_n43 : Code := cL ShadesOf_n42
noncomputable def ShadesOf_n44 : Code := cR ShadesOf_n42
noncomputable def ShadesOf_n45 : Code := cL ShadesOf_n43
noncomputable def ShadesOf_n46 : Code := cR ShadesOf_n43
noncomputable def ShadesOf_n47 : Code := cL ShadesOf_n46
noncomputable def ShadesOf_n48 : Code := cR ShadesOf_n46
noncomputable def ShadesOf_n49 : Code := cL ShadesOf_n44
noncomputable def ShadesOf_n50 : Code := cR ShadesOf_n44
noncomputable def ShadesOf_n51 : Code := cL ShadesOf_n49
noncomputable def ShadesOf_n52 : Code := cL ShadesOf_n51
noncomputable def ShadesOf_n53 : Code := cR ShadesOf_n51
noncomputable def ShadesOf_n54 : Code := cL ShadesOf_n53
noncomputable def ShadesOf_n55 : Code := cL ShadesOf_n54
noncomputable def ShadesOf_n56 : Code := cL ShadesOf_n55
noncomputable def ShadesOf_n57 : Code := cR ShadesOf_n55
noncomputable def ShadesOf_n58 : Code := cL ShadesOf_n56
noncomputable def ShadesOf_n59 : Code := cR ShadesOf_n56
noncomputable def ShadesOf_n60 : Code := cL ShadesOf_n59
noncomputable def ShadesOf_n61 : Code := cR ShadesOf_n59
noncomputable def ShadesOf_n62 : Code := cL ShadesOf_n57
noncomputable def ShadesOf_n63 : Code := cR ShadesOf_n57
noncomputable def ShadesOf_n64 : Code := cL ShadesOf_n62
noncomputable def ShadesOf_n65 : Code := cL ShadesOf_n64
noncomputable def ShadesOf_n66 : Code := cR ShadesOf_n64
noncomputable def ShadesOf_n67 : Code := cL ShadesOf_n66
noncomputable def ShadesOf_n68 : Code := cR ShadesOf_n66
noncomputable def ShadesOf_n69 : Code := cL ShadesOf_n67
noncomputable def ShadesOf_n70 : Code := cR ShadesOf_n67
noncomputable def ShadesOf_n71 : Code := cL ShadesOf_n70
noncomputable def ShadesOf_n72 : Code := cR ShadesOf_n70
noncomputable def ShadesOf_n73 : Code := cL ShadesOf_n68
noncomputable def ShadesOf_n74 : Code := cR ShadesOf_n68
noncomputable def ShadesOf_n75 : Code := cL ShadesOf_n74
noncomputable def ShadesOf_n76 : Code := cR ShadesOf_n74
noncomputable def ShadesOf_n77 : Code := cL ShadesOf_n25
noncomputable def ShadesOf_n78 : Code := cR ShadesOf_n25
set_option maxHeartbeats 1000000 in
set_option maxRecDepth 10000 in
theorem ShadesOf_t {w : World} {M : Hp} {X : Fr} (d : Dg) {dcrsA : Option Addr} {dcrsc : Nat} (hdcrs : RdA cdCr (M.un X.h) dcrsA dcrsc d.crs) (hn : d.crs.length ≤ 16) (hS : OkS d) (S : SH w M X []) : Ct Try.prog 9 [.agg [.slice dcrsA d.crs.length dcrsc, .int .i64 d.loops].toArray] w M X (fun u N => ∃ A c, u = .slice A (shL d).length c ∧ RdA cdInt N A c (shL d)) := by
 unfold Ct
 have rmhdcrs : d.crs.length * 40 ≤ 140737488355328 := hdcrs.room
 have hab := hS.ab
 have hfn := hS.fn
 refine calls_in (b := ShadesOf_n0) Try.func9 rfl Try.ntmps9 rfl (fun C hC => (ws_sub [(0, _)] ⟨rfl, trivial⟩ (ws_seqN ShadesOf_n1 ShadesOf_n2 rfl rfl rfl (ws_region rfl (wlo 0 1 rfl rfl rfl (wo_box (l := [_, _]) rfl rfl rfl rfl rfl S ?_))))))
 intro gb1 w1 S1; clear S
 refine wla 1 2 rfl rfl rfl rfl rfl rfl rfl (wl_end rfl (nmk [1] rfl (nm_thn (ws_seqN ShadesOf_n3 ShadesOf_n4 rfl rfl rfl ?_))))
 refine ws_region rfl (wlo 0 1 rfl rfl rfl (wo_run rfl rfl (run_loadN (us := [_, _]) rfl rfl Try.underlying24 rfl sz24 (S1.boxcs (i := 0) rfl ⟨rfl, rfl, trivial⟩)) (wlo 1 2 rfl rfl rfl (wo_ct rfl rfl rfl rfl rfl rfl rfl cf16 S1 (FacesOf_t d (hdcrs.mono S1.un_XH) (hn) (hab) S1.lend) ?_))))
 intro vw2 w2 M1 hle1 S2 hRw2; clear S1
 replace hdcrs := hdcrs.mono (Hp.un_mono hle1 S2.mx)
 obtain ⟨A1, c1, vs1, rfl, hr1, hd1⟩ := hRw2
 have hflA1 := hd1.1
 refine wla 2 3 rfl rfl rfl rfl rfl rfl rfl (wl_end rfl (nmk [1, 3] rfl (nm_thn (ws_seqN ShadesOf_n5 ShadesOf_n6 rfl rfl rfl ?_))))
 refine ws_region rfl (wlm 0 1 rfl rfl rfl rfl rfl rfl rfl ?_)
 have hff : vs1.length = (fcsC d).length := by rw [hd1.1, facesL_C, List.length_map]
 refine wlo 1 2 rfl rfl rfl (wo_run rfl rfl (run_len rfl rfl rfl rfl rfl rfl Try.underlying49) (wlo 2 3 rfl rfl rfl (wo_make (C := cdInt) vs1.length rfl rfl rfl rfl rfl sl25 (by first | rfl | omega) (by show _ * 8 ≤ _; first | omega | (simp only [lens]; omega)) S2 ?_)))
 intro vr1 w3 S3; clear S2
 refine wla 3 4 rfl rfl rfl rfl rfl rfl rfl (wl_end rfl (nmk [1, 3, 4] rfl (nm_thn (ws_seqN ShadesOf_n7 ShadesOf_n8 rfl rfl rfl ?_))))
 refine ws_seqN ShadesOf_n9 ShadesOf_n10 rfl rfl rfl (ws_region rfl (wla 0 1 rfl rfl rfl rfl rfl rfl rfl (wl_end rfl (nm_thn ?_))))
 refine ws_blockN ShadesOf_n11 0 rfl rfl rfl ?_
 refine ws_loopE (fun mx_ ax_ wx_ => ∃ (i : Nat) (os : List Int) (vro : Value), mx_ = (fcsC d).length - i ∧ Env 85 [(1, .pointer (some ⟨gb1, 0, none⟩)), (3, .slice A1 vs1.length c1), (4, vro), (5, .int .i64 (i : Int))] ax_ ∧ SH wx_ M1 X [Rs.row cdInt vro os, Rs.box gb1 24 [.slice dcrsA d.crs.length dcrsc, .int .i64 d.loops]] ∧ i ≤ (fcsC d).length ∧ os.length = (fcsC d).length ∧ (∀ j, j < i → ga os j = -1)) rfl ?_ ?_
 ·intro ax_ hax_
  refine ⟨_, ⟨0, _, _, rfl, hax_.sub ⟨rfl, rfl, rfl, rfl, trivial⟩, S3.pick [0, 1] [_, _] (by decide) ⟨rfl, rfl, trivial⟩, ?hq1f0, ?hq1f1, ?hq1f2⟩⟩
  case hq1f0 => omega
  case hq1f1 => (rw [List.length_replicate]; exact hff)
  case hq1f2 => (intro j hj; omega)
 ·rintro m1 a1 w4 ⟨i, os, vro, rfl, he1, S4, hi, hol, hm⟩
  clear S3
  refine ws_in he1 (c := ShadesOf_n12) rfl ?_
  clear he1 a1
  refine ws_seqN ShadesOf_n13 ShadesOf_n14 rfl rfl rfl (ws_seqN ShadesOf_n15 ShadesOf_n16 rfl rfl rfl (ws_region rfl (wlm 0 1 rfl rfl rfl rfl rfl rfl rfl (wlm 1 2 rfl rfl rfl rfl rfl rfl rfl ?_))))
  refine wlo 2 3 rfl rfl rfl (wo_run rfl rfl (run_lenR (C := cdInt) (i := 0) rfl rfl rfl rfl rfl rfl sl25 S4 rfl) (wlo 3 4 rfl rfl rfl (wo_run rfl rfl (run_lss rfl rfl rfl) (wl_end rfl (nmk [1, 3, 4, 5, 19] rfl (nm_thn ?_))))))
  refine ws_condN ShadesOf_n17 ShadesOf_n18 rfl rfl rfl rfl (fun hb19 => ?_) (fun hb19 => ?_)
  ·replace hb19 := of_decide_eq_true hb19
   refine ws_skip rfl (nmk [1, 3, 4, 5] rfl (nm_thn (ws_seqN ShadesOf_n19 ShadesOf_n20 rfl rfl rfl (ws_blockN ShadesOf_n21 1 rfl rfl rfl ?_))))
   refine ws_region rfl (wlm 0 1 rfl rfl rfl rfl rfl rfl rfl (wlm 1 2 rfl rfl rfl rfl rfl rfl rfl (wlo 2 3 rfl rfl rfl (wo_run rfl rfl (run_indexR (C := cdInt) (i := 0) i rfl rfl rfl sl25 S4 rfl (by first | rfl | omega) (by first | omega | (simp only [lens]; omega))) ?_))))
   refine wlo 3 4 rfl rfl rfl (wo_storeR (C := cdInt) (i := 0) (e := i) (j := 0) (us := [_]) (H' := [_, _]) (-1) rfl rfl S4 rfl (by first | omega | (simp only [lens]; omega)) rfl rfl rfl sz3 rfl rfl rfl rfl ?_)
   intro w5 S5; clear S4
   refine wl_end rfl (nm_blk (nmk [1, 3, 4, 5] rfl (nm_thn (ws_region rfl ?_))))
   refine wlm 0 1 rfl rfl rfl rfl rfl rfl rfl (wlo 1 2 rfl rfl rfl (wo_run rfl rfl (run_add rfl rfl rfl (by first | omega | (simp only [lens]; omega))) ?_))
   refine wla 2 3 rfl rfl rfl rfl rfl rfl rfl (wl_end rfl (nm_lp ?_))
   intro ax_ hax_
   refine ⟨_, ?hq2m, ⟨i + 1, _, _, rfl, hax_.sub ⟨rfl, rfl, rfl, rfl, trivial⟩, S5.pick [0, 1] [_, _] (by decide) ⟨rfl, rfl, trivial⟩, ?hq2f0, ?hq2f1, ?hq2f2⟩⟩
   case hq2f0 => omega
   case hq2f1 => (rw [List.length_set]; exact hol)
   case hq2f2 => (intro j hj; rw [ga_set _ _ _ _ (by omega)]; split; rfl; exact hm j (by omega))
   case hq2m => omega
  ·replace hb19 := of_decide_eq_false hb19
   refine ws_exit rfl rfl (nmk [1, 3, 4] rfl (nm_thn (ws_seqN ShadesOf_n22 ShadesOf_n23 rfl rfl rfl (ws_region rfl ?_))))
   refine wlm 0 1 rfl rfl rfl rfl rfl rfl rfl (wlo 1 2 rfl rfl rfl (wo_run rfl rfl (run_indexR (C := cdInt) (i := 0) 0 rfl rfl rfl sl25 S4 rfl (by first | rfl | omega) (by first | omega | (simp only [lens]; omega))) ?_))
   refine wlo 2 3 rfl rfl rfl (wo_storeR (C := cdInt) (i := 0) (e := 0) (j := 0) (us := [_]) (H' := [_, _]) 0 rfl rfl S4 rfl (by first | omega | (simp only [lens]; omega)) rfl rfl rfl sz3 rfl rfl rfl rfl ?_)
   intro w6 S6; clear S4
   refine wl_end rfl (nmk [1, 3, 4] rfl (nm_thn (ws_seqN ShadesOf_n24 ShadesOf_n25 rfl rfl rfl (ws_seqN ShadesOf_n26 ShadesOf_n27 rfl rfl rfl ?_))))
   have hrc1 : os.set 0 0 = (iniS d) := by (obtain rfl : i = (fcsC d).length := (by omega); unfold iniS; refine congrArg (fun l => List.set l 0 (0 : Int)) (ga_ext (by rw [hol, List.length_replicate]) fun j hj => (by rw [hm j (by omega), ga_rep _ _ _ (by omega)])))
   rw [hrc1] at S6; clear hrc1
   refine ws_region rfl (wla 0 1 rfl rfl rfl rfl rfl rfl rfl (wl_end rfl (nm_thn (ws_blockN ShadesOf_n28 2 rfl rfl rfl ?_))))
   refine ws_loopE (fun mx_ ax_ wx_ => ∃ (r : Nat) (os1 : List Int) (vro1 : Value), mx_ = (fcsC d).length - r ∧ Env 85 [(1, .pointer (some ⟨gb1, 0, none⟩)), (3, .slice A1 vs1.length c1), (4, vro1), (6, .int .i64 (r : Int))] ax_ ∧ SH wx_ M1 X [Rs.row cdInt vro1 os1, Rs.box gb1 24 [.slice dcrsA d.crs.length dcrsc, .int .i64 d.loops]] ∧ r ≤ (fcsC d).length ∧ os1 = rdsS d r) rfl ?_ ?_
   ·intro ax_ hax_
    refine ⟨_, ⟨0, _, _, rfl, hax_.sub ⟨rfl, rfl, rfl, rfl, trivial⟩, S6.pick [0, 1] [_, _] (by decide) ⟨rfl, rfl, trivial⟩, ?hq3f0, ?hq3f1⟩⟩
    case hq3f0 => omega
    case hq3f1 => rfl
   ·rintro m2 a2 w7 ⟨r, os1, vro1, rfl, he2, S7, hr, ho1⟩
    clear S6
    refine ws_in he2 (c := ShadesOf_n29) rfl ?_
    clear he2 a2
    have hp1 := rdsS_part hS r
    rw [← ho1] at hp1
    have hl1 := hp1.1
    refine ws_seqN ShadesOf_n30 ShadesOf_n31 rfl rfl rfl (ws_seqN ShadesOf_n32 ShadesOf_n33 rfl rfl rfl (ws_region rfl (wlm 0 1 rfl rfl rfl rfl rfl rfl rfl (wlm 1 2 rfl rfl rfl rfl rfl rfl rfl ?_))))
    refine wlo 2 3 rfl rfl rfl (wo_run rfl rfl (run_len rfl rfl rfl rfl rfl rfl Try.underlying49) (wlo 3 4 rfl rfl rfl (wo_run rfl rfl (run_lss rfl rfl rfl) (wl_end rfl (nmk [1, 3, 4, 6, 30] rfl (nm_thn ?_))))))
    refine ws_condN ShadesOf_n34 ShadesOf_n35 rfl rfl rfl rfl (fun hb30 => ?_) (fun hb30 => ?_)
    ·replace hb30 := of_decide_eq_true hb30
     refine ws_skip rfl (nmk [1, 3, 4, 6] rfl (nm_thn (ws_seqN ShadesOf_n36 ShadesOf_n37 rfl rfl rfl (ws_blockN ShadesOf_n38 3 rfl rfl rfl ?_))))
     refine ws_seqN ShadesOf_n39 ShadesOf_n40 rfl rfl rfl (ws_region rfl (wla 0 1 rfl rfl rfl rfl rfl rfl rfl (wl_end rfl (nm_thn ?_))))
     refine ws_blockN ShadesOf_n41 4 rfl rfl rfl ?_
     refine ws_loopE (fun mx_ ax_ wx_ => ∃ (c : Nat) (os2 : List Int) (vro2 : Value), mx_ = d.crs.length - c ∧ Env 85 [(1, .pointer (some ⟨gb1, 0, none⟩)), (3, .slice A1 vs1.length c1), (4, vro2), (6, .int .i64 (r : Int)), (7, .int .i64 (c : Int))] ax_ ∧ SH wx_ M1 X [Rs.row cdInt vro2 os2, Rs.box gb1 24 [.slice dcrsA d.crs.length dcrsc, .int .i64 d.loops]] ∧ c ≤ d.crs.length ∧ os2 = rowS d os1 (4 * c)) rfl ?_ ?_
     ·intro ax_ hax_
      refine ⟨_, ⟨0, _, _, rfl, hax_.sub ⟨rfl, rfl, rfl, rfl, rfl, trivial⟩, S7.pick [0, 1] [_, _] (by decide) ⟨rfl, rfl, trivial⟩, ?hq4f0, ?hq4f1⟩⟩
      case hq4f0 => omega
      case hq4f1 => rfl
     ·rintro m3 a3 w8 ⟨c, os2, vro2, rfl, he3, S8, hc, ho2⟩
      clear S7
      refine ws_in he3 (c := ShadesOf_n42) rfl ?_
      clear he3 a3
      refine ws_seqN ShadesOf_n43 ShadesOf_n44 rfl rfl rfl (ws_seqN ShadesOf_n45 ShadesOf_n46 rfl rfl rfl (ws_region rfl (wlm 0 1 rfl rfl rfl rfl rfl rfl rfl (wlo 1 2 rfl rfl rfl (wo_run rfl rfl (run_fieldAddr rfl rfl Try.underlying24 rfl (ce22) (nf22)) ?_)))))
      refine wlo 2 3 rfl rfl rfl (wo_run rfl rfl (run_load1 rfl rfl Try.underlying22 rfl (S8.boxc (i := 1) rfl rfl)) (wlo 3 4 rfl rfl rfl (wo_run rfl rfl (run_len rfl rfl rfl rfl rfl rfl Try.underlying22) (wlo 4 5 rfl rfl rfl (wo_run rfl rfl (run_lss rfl rfl rfl) (wl_end rfl (nmk [1, 3, 4, 6, 7, 37] rfl ?_)))))))
      refine nm_thn ?_
      refine ws_condN ShadesOf_n47 ShadesOf_n48 rfl rfl rfl rfl (fun hb37 => ?_) (fun hb37 => ?_)
      ·replace hb37 := of_decide_eq_true hb37
       refine ws_skip rfl (nmk [1, 3, 4, 6, 7] rfl (nm_thn (ws_seqN ShadesOf_n49 ShadesOf_n50 rfl rfl rfl (ws_blockN ShadesOf_n51 5 rfl rfl rfl ?_))))
       refine ws_seqN ShadesOf_n52 ShadesOf_n53 rfl rfl rfl (ws_region rfl (wla 0 1 rfl rfl rfl rfl rfl rfl rfl (wl_end rfl (nm_thn ?_))))
       refine ws_blockN ShadesOf_n54 6 rfl rfl rfl ?_
       refine ws_loopE (fun mx_ ax_ wx_ => ∃ (k : Nat) (os3 : List Int) (vro3 : Value), mx_ = 4 - k ∧ Env 85 [(1, .pointer (some ⟨gb1, 0, none⟩)), (3, .slice A1 vs1.length c1), (4, vro3), (6, .int .i64 (r : Int)), (7, .int .i64 (c : Int)), (8, .int .i64 (k : Int))] ax_ ∧ SH wx_ M1 X [Rs.row cdInt vro3 os3, Rs.box gb1 24 [.slice dcrsA d.crs.length dcrsc, .int .i64 d.loops]] ∧ k ≤ 4 ∧ os3 = rowS d os1 (4 * c + k)) rfl ?_ ?_
       ·intro ax_ hax_
        refine ⟨_, ⟨0, _, _, rfl, hax_.sub ⟨rfl, rfl, rfl, rfl, rfl, rfl, trivial⟩, S8.pick [0, 1] [_, _] (by decide) ⟨rfl, rfl, trivial⟩, ?hq5f0, ?hq5f1⟩⟩
        case hq5f0 => omega
        case hq5f1 => exact ho2
       ·rintro m4 a4 w9 ⟨k, os3, vro3, rfl, he4, S9, hk, ho3⟩
        clear S8
        refine ws_in he4 (c := ShadesOf_n55) rfl ?_
        clear he4 a4
        have hp3 := (rowS_ok hS hp1 (4 * c + k) (by omega)).1
        rw [← ho3] at hp3
        have hl3 := hp3.1
        refine ws_seqN ShadesOf_n56 ShadesOf_n57 rfl rfl rfl (ws_seqN ShadesOf_n58 ShadesOf_n59 rfl rfl rfl (ws_region rfl (wlm 0 1 rfl rfl rfl rfl rfl rfl rfl (wlo 1 2 rfl rfl rfl (wo_run rfl rfl (run_lss rfl rfl rfl) ?_)))))
        refine wl_end rfl (nmk [1, 3, 4, 6, 7, 8, 41] rfl (nm_thn ?_))
        refine ws_condN ShadesOf_n60 ShadesOf_n61 rfl rfl rfl rfl (fun hb41 => ?_) (fun hb41 => ?_)
        ·replace hb41 := of_decide_eq_true hb41
         refine ws_skip rfl (nmk [1, 3, 4, 6, 7, 8] rfl (nm_thn (ws_seqN ShadesOf_n62 ShadesOf_n63 rfl rfl rfl (ws_blockN ShadesOf_n64 7 rfl rfl rfl ?_))))
         refine ws_seqN ShadesOf_n65 ShadesOf_n66 rfl rfl rfl (ws_draw rfl (by kernel_rfl) S9 16 rfl ?_)
         clear S9
         refine wap 0 15 rfl (by kernel_rfl) rfl rfl rfl (fun w10 => run_move rfl rfl) ?_
         refine wat 1 14 rfl (by kernel_rfl) rfl rfl rfl (fun M3 N2 w11 hle7 S11 => .inl (run_loadN (us := [_, _]) rfl rfl Try.underlying24 rfl sz24 (S11.suf.boxcs (i := 1) rfl ⟨rfl, rfl, trivial⟩))) ?_
         refine wap 2 13 rfl (by kernel_rfl) rfl rfl rfl (fun w12 => run_move rfl rfl) ?_
         refine wap 3 12 rfl (by kernel_rfl) rfl rfl rfl (fun w13 => run_move rfl rfl) ?_
         refine wat 4 11 rfl (by kernel_rfl) rfl rfl rfl (fun M6 N5 w14 hle10 S14 => .inl (run_build (l := [_, _]) rfl rfl st53 rfl rfl)) ?_
         refine wat 5 10 rfl (by kernel_rfl) rfl rfl rfl (fun M7 N6 w15 hle11 S15 => yield_cq rfl rfl rfl rfl rfl cf17 S15 (faceAt_q (facesL d) d c k ((hr1.mono hle11).mono (Hp.le_un _ _)) ((hd1.mono hle11).mono (Hp.le_un _ _)) ((hdcrs.mono (Hp.un_mono hle11 S15.mx)).mono S15.un_XH) (rfl) (hn) (hab) ((by omega)) ((by omega)) S15.lend)) ?_
         refine wap 6 9 rfl (by kernel_rfl) rfl rfl rfl (fun w16 => run_move rfl rfl) ?_
         refine wat 7 8 rfl (by kernel_rfl) rfl rfl rfl (fun M9 N8 w17 hle13 S17 => .inl (run_loadN (us := [_, _]) rfl rfl Try.underlying24 rfl sz24 (S17.suf.boxcs (i := 1) rfl ⟨rfl, rfl, trivial⟩))) ?_
         refine wap 8 7 rfl (by kernel_rfl) rfl rfl rfl (fun w18 => run_move rfl rfl) ?_
         refine wap 9 6 rfl (by kernel_rfl) rfl rfl rfl (fun w19 => run_move rfl rfl) ?_
         refine wap 10 5 rfl (by kernel_rfl) rfl rfl rfl (fun w20 => run_add rfl rfl rfl (by first | omega | (simp only [lens]; omega))) ?_
         refine wap 11 4 rfl (by kernel_rfl) rfl rfl rfl (fun w21 => run_rem rfl rfl rfl (by first | omega | (simp only [lens]; omega))) ?_
         refine wa_eq 55 (.int .i64 (((k + 1) % 4 : Nat) : Int)) rfl (int_eq (by omega)) ?_
         refine wat 12 3 rfl (by kernel_rfl) rfl rfl rfl (fun M14 N13 w22 hle18 S22 => .inl (run_build (l := [_, _]) rfl rfl st53 rfl rfl)) ?_
         refine wat 13 2 rfl (by kernel_rfl) rfl rfl rfl (fun M15 N14 w23 hle19 S23 => yield_cq rfl rfl rfl rfl rfl cf17 S23 (faceAt_q (facesL d) d c ((k + 1) % 4) ((hr1.mono hle19).mono (Hp.le_un _ _)) ((hd1.mono hle19).mono (Hp.le_un _ _)) ((hdcrs.mono (Hp.un_mono hle19 S23.mx)).mono S23.un_XH) (rfl) (hn) (hab) ((by omega)) ((by omega)) S23.lend)) ?_
         refine wap 14 1 rfl (by kernel_rfl) rfl rfl rfl (fun w24 => run_assign rfl rfl) ?_
         refine wap 15 0 rfl (by kernel_rfl) rfl rfl rfl (fun w25 => run_assign rfl rfl) ?_
         refine wa_end (by kernel_rfl) (fun w26 S26 => ?_)
         refine nmk [1, 3, 4, 6, 7, 8, 9, 10] rfl (nm_thn (ws_seqN ShadesOf_n67 ShadesOf_n68 rfl rfl rfl (ws_seqN ShadesOf_n69 ShadesOf_n70 rfl rfl rfl ?_)))
         have hx9 := fcJ_lt hS (j := 4 * c + k) (by omega)
         have hy9 := fcJ_lt hS (j := 4 * c + (k + 1) % 4) (by omega)
         have hbx9 := part_bd hp3 hx9
         have hby9 := part_bd hp3 hy9
         have hnx9 : nxJ (4 * c + k) = 4 * c + (k + 1) % 4 := by unfold nxJ; omega
         refine ws_region rfl (wlm 0 1 rfl rfl rfl rfl rfl rfl rfl (wlm 1 2 rfl rfl rfl rfl rfl rfl rfl (wlo 2 3 rfl rfl rfl (wo_run rfl rfl (run_indexR (C := cdInt) (i := 0) (fcJ d (4 * c + k)) rfl rfl rfl sl25 S26 rfl (by first | rfl | omega) (by first | omega | (simp only [lens]; omega))) ?_))))
         refine wlo 3 4 rfl rfl rfl (wo_run rfl rfl (run_load1 rfl rfl Try.underlying3 rfl (S26.rowc (i := 0) (e := fcJ d (4 * c + k)) (j := 0) rfl (by first | omega | (simp only [lens]; omega)) rfl rfl)) ?_)
         refine wlo 4 5 rfl rfl rfl (wo_run rfl rfl (run_geq rfl rfl rfl) (wl_end rfl (nmk [1, 3, 4, 6, 7, 8, 9, 10, 62] rfl (nm_thn ?_))))
         refine ws_condN ShadesOf_n71 ShadesOf_n72 rfl rfl rfl rfl (fun hb62 => ?_) (fun hb62 => ?_)
         ·replace hb62 := of_decide_eq_true hb62
          have hgy : ga (os3.set (fcJ d (4 * c + (k + 1) % 4)) (1 - ga os3 (fcJ d (4 * c + k)))) (fcJ d (4 * c + (k + 1) % 4)) = 1 - ga os3 (fcJ d (4 * c + k)) := by rw [ga_set _ _ _ _ (by omega), if_pos rfl]
          refine ws_region rfl (wlm 0 1 rfl rfl rfl rfl rfl rfl rfl (wlm 1 2 rfl rfl rfl rfl rfl rfl rfl (wlm 2 3 rfl rfl rfl rfl rfl rfl rfl (wlm 3 4 rfl rfl rfl rfl rfl rfl rfl ?_))))
          refine wlo 4 5 rfl rfl rfl (wo_run rfl rfl (run_indexR (C := cdInt) (i := 0) (fcJ d (4 * c + k)) rfl rfl rfl sl25 S26 rfl (by first | rfl | omega) (by first | omega | (simp only [lens]; omega))) ?_)
          refine wlo 5 6 rfl rfl rfl (wo_run rfl rfl (run_load1 rfl rfl Try.underlying3 rfl (S26.rowc (i := 0) (e := fcJ d (4 * c + k)) (j := 0) rfl (by first | omega | (simp only [lens]; omega)) rfl rfl)) ?_)
          refine wlo 6 7 rfl rfl rfl (wo_run rfl rfl (run_sub rfl rfl rfl (by first | omega | (simp only [lens]; omega))) ?_)
          refine wlo 7 8 rfl rfl rfl (wo_run rfl rfl (run_indexR (C := cdInt) (i := 0) (fcJ d (4 * c + ((k + 1) % 4))) rfl rfl rfl sl25 S26 rfl (by first | rfl | omega) (by first | omega | (simp only [lens]; omega))) ?_)
          refine wlo 8 9 rfl rfl rfl (wo_storeR (C := cdInt) (i := 0) (e := fcJ d (4 * c + ((k + 1) % 4))) (j := 0) (us := [_]) (H' := [_, _]) (1 - (ga os3 (fcJ d (4 * c + k)))) rfl rfl S26 rfl (by first | omega | (simp only [lens]; omega)) rfl rfl rfl sz3 rfl rfl rfl rfl ?_)
          intro w27 S27; clear S26
          refine wl_end rfl (nmk [1, 3, 4, 6, 7, 8, 9, 10] rfl (nm_thn (ws_seqN ShadesOf_n73 ShadesOf_n74 rfl rfl rfl (ws_region rfl ?_))))
          refine wlm 0 1 rfl rfl rfl rfl rfl rfl rfl (wlm 1 2 rfl rfl rfl rfl rfl rfl rfl (wlo 2 3 rfl rfl rfl (wo_run rfl rfl (run_indexR (C := cdInt) (i := 0) (fcJ d (4 * c + ((k + 1) % 4))) rfl rfl rfl sl25 S27 rfl (by first | rfl | omega) (by first | omega | (simp only [lens]; omega))) ?_)))
          refine wlo 3 4 rfl rfl rfl (wo_run rfl rfl (run_load1 rfl rfl Try.underlying3 rfl (S27.rowc (i := 0) (e := fcJ d (4 * c + ((k + 1) % 4))) (j := 0) rfl (by first | omega | (simp only [lens]; omega)) rfl rfl)) ?_)
          refine wlo 4 5 rfl rfl rfl (wo_run rfl rfl (run_geq rfl rfl rfl) (wl_end rfl (nmk [1, 3, 4, 6, 7, 8, 9, 10, 75] rfl (nm_thn ?_))))
          refine ws_condN ShadesOf_n75 ShadesOf_n76 rfl rfl rfl rfl (fun hb75 => ?_) (fun hb75 => ?_)
          ·replace hb75 := of_decide_eq_true hb75
           refine ws_region rfl (wlm 0 1 rfl rfl rfl rfl rfl rfl rfl (wlm 1 2 rfl rfl rfl rfl rfl rfl rfl (wlm 2 3 rfl rfl rfl rfl rfl rfl rfl (wlm 3 4 rfl rfl rfl rfl rfl rfl rfl ?_))))
           refine wlo 4 5 rfl rfl rfl (wo_run rfl rfl (run_indexR (C := cdInt) (i := 0) (fcJ d (4 * c + ((k + 1) % 4))) rfl rfl rfl sl25 S27 rfl (by first | rfl | omega) (by first | omega | (simp only [lens]; omega))) ?_)
           refine wlo 5 6 rfl rfl rfl (wo_run rfl rfl (run_load1 rfl rfl Try.underlying3 rfl (S27.rowc (i := 0) (e := fcJ d (4 * c + ((k + 1) % 4))) (j := 0) rfl (by first | omega | (simp only [lens]; omega)) rfl rfl)) ?_)
           refine wlo 6 7 rfl rfl rfl (wo_run rfl rfl (run_sub rfl rfl rfl (by first | omega | (simp only [lens]; omega))) ?_)
           refine wlo 7 8 rfl rfl rfl (wo_run rfl rfl (run_indexR (C := cdInt) (i := 0) (fcJ d (4 * c + k)) rfl rfl rfl sl25 S27 rfl (by first | rfl | omega) (by first | omega | (simp only [lens]; omega))) ?_)
           refine wlo 8 9 rfl rfl rfl (wo_storeR (C := cdInt) (i := 0) (e := fcJ d (4 * c + k)) (j := 0) (us := [_]) (H' := [_, _]) (1 - (ga (os3.set (fcJ d (4 * c + ((k + 1) % 4))) (1 - (ga os3 (fcJ d (4 * c + k))))) (fcJ d (4 * c + ((k + 1) % 4))))) rfl rfl S27 rfl (by first | omega | (simp only [lens]; omega)) rfl rfl rfl sz3 rfl rfl rfl rfl ?_)
           intro w28 S28; clear S27
           refine wl_end rfl (nm_blk (nmk [1, 3, 4, 6, 7, 8] rfl (nm_thn (ws_region rfl ?_))))
           refine wlm 0 1 rfl rfl rfl rfl rfl rfl rfl (wlo 1 2 rfl rfl rfl (wo_run rfl rfl (run_add rfl rfl rfl (by first | omega | (simp only [lens]; omega))) ?_))
           refine wla 2 3 rfl rfl rfl rfl rfl rfl rfl (wl_end rfl (nm_lp ?_))
           intro ax_ hax_
           refine ⟨_, ?hq6m, ⟨k + 1, _, _, rfl, hax_.sub ⟨rfl, rfl, rfl, rfl, rfl, rfl, trivial⟩, S28.pick [0, 1] [_, _] (by decide) ⟨rfl, rfl, trivial⟩, ?hq6f0, ?hq6f1⟩⟩
           case hq6f0 => omega
           case hq6f1 => (show _ = stS (rowS d os1 (4 * c + k)) (fcJ d (4 * c + k)) (fcJ d (nxJ (4 * c + k))); rw [← ho3, hnx9]; unfold stS stA; first | (rw [if_pos hb62, if_pos hb75]; done) | (rw [if_pos hb62, if_neg hb75]; done) | (rw [if_neg hb62, if_pos hb75]; done) | (rw [if_neg hb62, if_neg hb75]; done))
           case hq6m => omega
          ·replace hb75 := of_decide_eq_false hb75
           refine ws_skip rfl (nm_blk (nmk [1, 3, 4, 6, 7, 8] rfl (nm_thn (ws_region rfl ?_))))
           refine wlm 0 1 rfl rfl rfl rfl rfl rfl rfl (wlo 1 2 rfl rfl rfl (wo_run rfl rfl (run_add rfl rfl rfl (by first | omega | (simp only [lens]; omega))) ?_))
           refine wla 2 3 rfl rfl rfl rfl rfl rfl rfl (wl_end rfl (nm_lp ?_))
           intro ax_ hax_
           refine ⟨_, ?hq7m, ⟨k + 1, _, _, rfl, hax_.sub ⟨rfl, rfl, rfl, rfl, rfl, rfl, trivial⟩, S27.pick [0, 1] [_, _] (by decide) ⟨rfl, rfl, trivial⟩, ?hq7f0, ?hq7f1⟩⟩
           case hq7f0 => omega
           case hq7f1 => (show _ = stS (rowS d os1 (4 * c + k)) (fcJ d (4 * c + k)) (fcJ d (nxJ (4 * c + k))); rw [← ho3, hnx9]; unfold stS stA; first | (rw [if_pos hb62, if_pos hb75]; done) | (rw [if_pos hb62, if_neg hb75]; done) | (rw [if_neg hb62, if_pos hb75]; done) | (rw [if_neg hb62, if_neg hb75]; done))
           case hq7m => omega
         ·replace hb62 := of_decide_eq_false hb62
          refine ws_skip rfl (nmk [1, 3, 4, 6, 7, 8, 9, 10] rfl (nm_thn (ws_seqN ShadesOf_n73 ShadesOf_n74 rfl rfl rfl (ws_region rfl ?_))))
          refine wlm 0 1 rfl rfl rfl rfl rfl rfl rfl (wlm 1 2 rfl rfl rfl rfl rfl rfl rfl (wlo 2 3 rfl rfl rfl (wo_run rfl rfl (run_indexR (C := cdInt) (i := 0) (fcJ d (4 * c + ((k + 1) % 4))) rfl rfl rfl sl25 S26 rfl (by first | rfl | omega) (by first | omega | (simp only [lens]; omega))) ?_)))
          refine wlo 3 4 rfl rfl rfl (wo_run rfl rfl (run_load1 rfl rfl Try.underlying3 rfl (S26.rowc (i := 0) (e := fcJ d (4 * c + ((k + 1) % 4))) (j := 0) rfl (by first | omega | (simp only [lens]; omega)) rfl rfl)) ?_)
          refine wlo 4 5 rfl rfl rfl (wo_run rfl rfl (run_geq rfl rfl rfl) (wl_end rfl (nmk [1, 3, 4, 6, 7, 8, 9, 10, 75] rfl (nm_thn ?_))))
          refine ws_condN ShadesOf_n75 ShadesOf_n76 rfl rfl rfl rfl (fun hb75 => ?_) (fun hb75 => ?_)
          ·replace hb75 := of_decide_eq_true hb75
           refine ws_region rfl (wlm 0 1 rfl rfl rfl rfl rfl rfl rfl (wlm 1 2 rfl rfl rfl rfl rfl rfl rfl (wlm 2 3 rfl rfl rfl rfl rfl rfl rfl (wlm 3 4 rfl rfl rfl rfl rfl rfl rfl ?_))))
           refine wlo 4 5 rfl rfl rfl (wo_run rfl rfl (run_indexR (C := cdInt) (i := 0) (fcJ d (4 * c + ((k + 1) % 4))) rfl rfl rfl sl25 S26 rfl (by first | rfl | omega) (by first | omega | (simp only [lens]; omega))) ?_)
           refine wlo 5 6 rfl rfl rfl (wo_run rfl rfl (run_load1 rfl rfl Try.underlying3 rfl (S26.rowc (i := 0) (e := fcJ d (4 * c + ((k + 1) % 4))) (j := 0) rfl (by first | omega | (simp only [lens]; omega)) rfl rfl)) ?_)
           refine wlo 6 7 rfl rfl rfl (wo_run rfl rfl (run_sub rfl rfl rfl (by first | omega | (simp only [lens]; omega))) ?_)
           refine wlo 7 8 rfl rfl rfl (wo_run rfl rfl (run_indexR (C := cdInt) (i := 0) (fcJ d (4 * c + k)) rfl rfl rfl sl25 S26 rfl (by first | rfl | omega) (by first | omega | (simp only [lens]; omega))) ?_)
           refine wlo 8 9 rfl rfl rfl (wo_storeR (C := cdInt) (i := 0) (e := fcJ d (4 * c + k)) (j := 0) (us := [_]) (H' := [_, _]) (1 - (ga os3 (fcJ d (4 * c + ((k + 1) % 4))))) rfl rfl S26 rfl (by first | omega | (simp only [lens]; omega)) rfl rfl rfl sz3 rfl rfl rfl rfl ?_)
           intro w29 S29; clear S26
           refine wl_end rfl (nm_blk (nmk [1, 3, 4, 6, 7, 8] rfl (nm_thn (ws_region rfl ?_))))
           refine wlm 0 1 rfl rfl rfl rfl rfl rfl rfl (wlo 1 2 rfl rfl rfl (wo_run rfl rfl (run_add rfl rfl rfl (by first | omega | (simp only [lens]; omega))) ?_))
           refine wla 2 3 rfl rfl rfl rfl rfl rfl rfl (wl_end rfl (nm_lp ?_))
           intro ax_ hax_
           refine ⟨_, ?hq8m, ⟨k + 1, _, _, rfl, hax_.sub ⟨rfl, rfl, rfl, rfl, rfl, rfl, trivial⟩, S29.pick [0, 1] [_, _] (by decide) ⟨rfl, rfl, trivial⟩, ?hq8f0, ?hq8f1⟩⟩
           case hq8f0 => omega
           case hq8f1 => (show _ = stS (rowS d os1 (4 * c + k)) (fcJ d (4 * c + k)) (fcJ d (nxJ (4 * c + k))); rw [← ho3, hnx9]; unfold stS stA; first | (rw [if_pos hb62, if_pos hb75]; done) | (rw [if_pos hb62, if_neg hb75]; done) | (rw [if_neg hb62, if_pos hb75]; done) | (rw [if_neg hb62, if_neg hb75]; done))
           case hq8m => omega
          ·replace hb75 := of_decide_eq_false hb75
           refine ws_skip rfl (nm_blk (nmk [1, 3, 4, 6, 7, 8] rfl (nm_thn (ws_region rfl ?_))))
           refine wlm 0 1 rfl rfl rfl rfl rfl rfl rfl (wlo 1 2 rfl rfl rfl (wo_run rfl rfl (run_add rfl rfl rfl (by first | omega | (simp only [lens]; omega))) ?_))
           refine wla 2 3 rfl rfl rfl rfl rfl rfl rfl (wl_end rfl (nm_lp ?_))
           intro ax_ hax_
           refine ⟨_, ?hq9m, ⟨k + 1, _, _, rfl, hax_.sub ⟨rfl, rfl, rfl, rfl, rfl, rfl, trivial⟩, S26.pick [0, 1] [_, _] (by decide) ⟨rfl, rfl, trivial⟩, ?hq9f0, ?hq9f1⟩⟩
           case hq9f0 => omega
           case hq9f1 => (show _ = stS (rowS d os1 (4 * c + k)) (fcJ d (4 * c + k)) (fcJ d (nxJ (4 * c + k))); rw [← ho3, hnx9]; unfold stS stA; first | (rw [if_pos hb62, if_pos hb75]; done) | (rw [if_pos hb62, if_neg hb75]; done) | (rw [if_neg hb62, if_pos hb75]; done) | (rw [if_neg hb62, if_neg hb75]; done))
           case hq9m => omega
        ·replace hb41 := of_decide_eq_false hb41
         refine ws_exit rfl rfl (nm_blk (nmk [1, 3, 4, 6, 7] rfl (nm_thn (ws_region rfl ?_))))
         refine wlm 0 1 rfl rfl rfl rfl rfl rfl rfl (wlo 1 2 rfl rfl rfl (wo_run rfl rfl (run_add rfl rfl rfl (by first | omega | (simp only [lens]; omega))) ?_))
         refine wla 2 3 rfl rfl rfl rfl rfl rfl rfl (wl_end rfl (nm_lp ?_))
         intro ax_ hax_
         refine ⟨_, ?hq10m, ⟨c + 1, _, _, rfl, hax_.sub ⟨rfl, rfl, rfl, rfl, rfl, trivial⟩, S9.pick [0, 1] [_, _] (by decide) ⟨rfl, rfl, trivial⟩, ?hq10f0, ?hq10f1⟩⟩
         case hq10f0 => omega
         case hq10f1 => (obtain rfl : k = 4 := (by omega); exact ho3)
         case hq10m => omega
      ·replace hb37 := of_decide_eq_false hb37
       refine ws_exit rfl rfl (nm_blk (nmk [1, 3, 4, 6] rfl (nm_thn (ws_region rfl ?_))))
       refine wlm 0 1 rfl rfl rfl rfl rfl rfl rfl (wlo 1 2 rfl rfl rfl (wo_run rfl rfl (run_add rfl rfl rfl (by first | omega | (simp only [lens]; omega))) ?_))
       refine wla 2 3 rfl rfl rfl rfl rfl rfl rfl (wl_end rfl (nm_lp ?_))
       intro ax_ hax_
       refine ⟨_, ?hq11m, ⟨r + 1, _, _, rfl, hax_.sub ⟨rfl, rfl, rfl, rfl, trivial⟩, S8.pick [0, 1] [_, _] (by decide) ⟨rfl, rfl, trivial⟩, ?hq11f0, ?hq11f1⟩⟩
       case hq11f0 => omega
       case hq11f1 => (obtain rfl : c = d.crs.length := (by omega); rw [ho2, ho1]; rfl)
       case hq11m => omega
    ·replace hb30 := of_decide_eq_false hb30
     refine ws_exit rfl rfl (nmk [4] rfl (nm_thn (ws_seqN ShadesOf_n77 ShadesOf_n78 rfl rfl rfl (ws_region rfl ?_))))
     refine wlm 0 1 rfl rfl rfl rfl rfl rfl rfl (wla 1 2 rfl rfl rfl rfl rfl rfl rfl (wl_end rfl (nmk [2] rfl (nm_thn ?_))))
     obtain ⟨M18, hle22, S30, ⟨A2, c2, e1, hr2⟩⟩ := S7.pubrow (i := 0) (H' := [_, _]) rfl rfl (by show _ * 8 ≤ _; first | omega | (simp only [lens]; omega))
     clear S7; subst e1
     replace hdcrs := hdcrs.mono (Hp.un_mono hle22 S30.mx)
     replace hr1 := hr1.mono hle22
     replace hd1 := hd1.mono hle22
     refine ws_ret hC [_] rfl rfl ⟨rfl, trivial⟩ ?_
     refine ⟨_, rfl, _, hle1.trans hle22, (S30.pick [] [] (by decide) trivial), ?_⟩
     obtain rfl : r = (fcsC d).length := by omega
     have e9 : os1 = shL d := by rw [ho1]; exact rdsS_all hS
     rw [← e9]
     exact ⟨_, _, rfl, hr2⟩
end Go.Proofs.Ythppkofceancjaa
