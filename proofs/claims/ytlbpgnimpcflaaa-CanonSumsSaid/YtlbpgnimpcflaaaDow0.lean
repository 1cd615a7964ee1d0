/- Visits of one strand: each crossing is visited twice; plain facts on Dowker's code. -/
import Derived.Test.YtlbpgnimpcflaaaGau0
namespace Go.Proofs.Ytlbpgnimpcflaaa
open Go.RowKit

/-! ### What rings hold -/

/-- L holds just the marked ones, once each. -/
def Marks (seen : List Bool) (L : List Int) : Prop := L.Nodup ∧ ∀ y : Int, y ∈ L ↔ ∃ x : Nat, y = (x : Int) ∧ x < seen.length ∧ ga seen x = true

theorem marks_set {seen : List Bool} {L : List Int} {x : Nat} (h : Marks seen L) (hx : x < seen.length) (hf : ga seen x = false) : Marks (seen.set x true) (L ++ [(x : Int)]) := by
  obtain ⟨h1, h2⟩ := h
  refine ⟨?_, fun y => ?_⟩
  · rw [List.nodup_append]
    refine ⟨h1, by simp, ?_⟩
    intro a ha b hb e
    rw [List.mem_singleton] at hb
    subst hb
    subst e
    obtain ⟨x', e, _, h4⟩ := (h2 _).1 ha
    obtain rfl : x = x' := by omega
    rw [hf] at h4
    cases h4
  · rw [List.mem_append, List.mem_singleton, h2]
    constructor
    · rintro (⟨x', e, h3, h4⟩ | rfl)
      · refine ⟨x', e, by rw [List.length_set]; exact h3, ?_⟩
        rw [ga_set _ _ _ _ hx]
        split <;> simp [h4]
      · exact ⟨x, rfl, by rw [List.length_set]; exact hx, by rw [ga_set _ _ _ _ hx]; simp⟩
    · rintro ⟨x', e, h3, h4⟩
      rw [List.length_set] at h3
      rw [ga_set _ _ _ _ hx] at h4
      by_cases hxx : x = x'
      · subst hxx; exact .inr e
      · rw [if_neg hxx] at h4; exact .inl ⟨x', e, h3, h4⟩

theorem ringF_marks {nx : Nat → Nat} (P : List Int) (seen : List Bool) (x : Nat) (acc : List Int) (h : Marks seen (P ++ acc)) :
    Marks (ringF nx seen x acc).1 (P ++ (ringF nx seen x acc).2) ∧ (∀ y, ga seen y = true → ga (ringF nx seen x acc).1 y = true) ∧ (x < seen.length → ga (ringF nx seen x acc).1 x = true) := by
  induction hk : free seen using Nat.strongRecOn generalizing seen x acc with
  | _ k ih =>
    by_cases hx : x < seen.length ∧ ga seen x = false
    · rw [ringF_go hx.1 hx.2]
      have hf := free_set hx.1 hx.2
      obtain ⟨r1, r2, _⟩ := ih (free (seen.set x true)) (by omega) (seen.set x true) (nx x) (acc ++ [(x : Int)]) (by rw [← List.append_assoc]; exact marks_set h hx.1 hx.2) rfl
      refine ⟨r1, fun y hy => r2 y ?_, fun _ => r2 x ?_⟩
      · rw [ga_set _ _ _ _ hx.1]; split <;> simp [hy]
      · rw [ga_set _ _ _ _ hx.1]; simp
    · have e : ringF nx seen x acc = (seen, acc) := by rw [ringF]; simp [hx]
      rw [e]
      refine ⟨h, fun y hy => hy, fun hl => ?_⟩
      cases hg : ga seen x
      · exact absurd ⟨hl, hg⟩ hx
      · rfl

theorem ringsF_marks (nx : Nat → Nat) (N A : Nat) (hA : A < N) : Marks (ringsF nx N A).1 (ringsF nx N A).2.flatten ∧ ∀ a, 1 ≤ a → a ≤ A → ga (ringsF nx N A).1 a = true := by
  induction A with
  | zero =>
    refine ⟨⟨by simp [ringsF], fun y => ?_⟩, fun a h0 h1 => by omega⟩
    simp only [ringsF, List.flatten_nil, List.not_mem_nil, List.length_replicate, false_iff]
    rintro ⟨x, _, h1, h2⟩
    rw [ga_rep _ _ _ h1] at h2
    cases h2
  | succ A ih =>
    obtain ⟨i1, i2⟩ := ih (by omega)
    cases hg : ga (ringsF nx N A).1 (A + 1)
    · rw [ringsF_ring hg]
      dsimp only
      obtain ⟨r1, r2, r3⟩ := ringF_marks (nx := nx) (ringsF nx N A).2.flatten (ringsF nx N A).1 (A + 1) [] (by simpa using i1)
      refine ⟨by rw [List.flatten_append]; simpa using r1, fun a h0 h1 => ?_⟩
      by_cases ha : a = A + 1
      · subst ha; exact r3 (by rw [ringsF_len]; exact hA)
      · exact r2 a (i2 a h0 (by omega))
    · rw [ringsF_skip hg]
      refine ⟨i1, fun a h0 h1 => ?_⟩
      by_cases ha : a = A + 1
      · subst ha; exact hg
      · exact i2 a h0 (by omega)

theorem ringF_pos {nx : Nat → Nat} {M : Nat} (hnx : ∀ a, 1 ≤ a → a ≤ M → 1 ≤ nx a ∧ nx a ≤ M) (seen : List Bool) (x : Nat) (acc : List Int) (h0 : 1 ≤ x) (h1 : x ≤ M) : ga (ringF nx seen x acc).1 0 = ga seen 0 := by
  induction hk : free seen using Nat.strongRecOn generalizing seen x acc with
  | _ k ih =>
    by_cases h : x < seen.length ∧ ga seen x = false
    · rw [ringF_go h.1 h.2]
      have hf := free_set h.1 h.2
      obtain ⟨n0, n1⟩ := hnx x h0 h1
      rw [ih (free (seen.set x true)) (by omega) (seen.set x true) (nx x) (acc ++ [(x : Int)]) n0 n1 rfl, ga_set _ _ _ _ h.1, if_neg (by omega)]
    · rw [ringF]; simp [h]
theorem ringsF_pos {nx : Nat → Nat} {M : Nat} (hnx : ∀ a, 1 ≤ a → a ≤ M → 1 ≤ nx a ∧ nx a ≤ M) (A : Nat) (hA : A ≤ M) : ga (ringsF nx (M + 1) A).1 0 = false := by
  induction A with
  | zero => simp [ringsF, ga_rep]
  | succ A ih =>
    cases hg : ga (ringsF nx (M + 1) A).1 (A + 1)
    · rw [ringsF_ring hg]
      dsimp only
      rw [ringF_pos hnx _ _ _ (by omega) hA]
      exact ih (by omega)
    · rw [ringsF_skip hg]
      exact ih (by omega)

/-- All arcs lie on the strands, once each. -/
theorem strands_all {d : Dg} (h : arcsB d = true) : (strandsL d).flatten.Nodup ∧ ∀ y : Int, y ∈ (strandsL d).flatten ↔ 1 ≤ y ∧ y ≤ 2 * (d.crs.length : Int) := by
  obtain ⟨⟨m1, m2⟩, m3⟩ := ringsF_marks (nextN d) (2 * d.crs.length + 1) (2 * d.crs.length) (by omega)
  have hp := ringsF_pos (nx := nextN d) (M := 2 * d.crs.length) (fun a h0 h1 => (nextN_eq h h0 h1).2) (2 * d.crs.length) (Nat.le_refl _)
  refine ⟨m1, fun y => ?_⟩
  unfold strandsL
  rw [m2, ringsF_len]
  constructor
  · rintro ⟨x, rfl, h1, h2⟩
    have : x ≠ 0 := by rintro rfl; rw [hp] at h2; cases h2
    omega
  · rintro ⟨h1, h2⟩
    exact ⟨y.toNat, by omega, by omega, m3 _ (by omega) (by omega)⟩
theorem nodup_len {L : List Int} {n : Nat} (h1 : L.Nodup) (h2 : ∀ y : Int, y ∈ L ↔ 1 ≤ y ∧ y ≤ (n : Int)) : L.length = n := by
  have hp : L.Perm ((List.range n).map fun x : Nat => ((x + 1 : Nat) : Int)) := by
    rw [List.perm_ext_iff_of_nodup h1]
    · intro y
      rw [h2, List.mem_map]
      constructor
      · rintro ⟨a, b⟩
        exact ⟨(y - 1).toNat, by simp; omega, by omega⟩
      · rintro ⟨x, hx, rfl⟩
        simp at hx
        omega
    · rw [List.nodup_iff_pairwise_ne, List.pairwise_map]
      refine List.Pairwise.imp ?_ List.nodup_range
      intro a b hab e
      exact hab (by omega)
  have := hp.length_eq
  simpa using this

theorem nodup_inj {L : List Int} (h : L.Nodup) {i j : Nat} (hi : i < L.length) (hj : j < L.length) (e : L[i] = L[j]) : i = j := by
  rcases Nat.lt_trichotomy i j with h1 | h1 | h1
  · exact absurd e (List.pairwise_iff_getElem.1 h i j hi hj h1)
  · exact h1
  · exact absurd e.symm (List.pairwise_iff_getElem.1 h j i hj hi h1)

/-! ### Each crossing is visited twice -/

/-- Each of N crossings is visited twice. -/
structure Vis2 (v : List Vi) (N : Nat) : Prop where
  len : v.length = 2 * N
  rng : ∀ i, i < 2 * N → 0 ≤ (ga v i).c ∧ (ga v i).c < N
  two : ∀ c : Nat, c < N → ∃ i j, i < j ∧ j < 2 * N ∧ (ga v i).c = c ∧ (ga v j).c = c ∧ ∀ k, k < 2 * N → (ga v k).c = c → k = i ∨ k = j

theorem endOf_at {d : Dg} (h : arcsB d = true) {c k : Nat} (hc : c < d.crs.length) (hk : k < 4) (hin : entryB d c k = true) : endOf d (arcAt d c k) false = (c, k) := by
  have hr := arcs_rng h (j := 4 * c + k) (by omega)
  have ha : arcJ d (4 * c + k) = arcAt d c k := by unfold arcJ; rw [show (4 * c + k) / 4 = c by omega, show (4 * c + k) % 4 = k by omega]
  rw [ha] at hr
  have hcn := (arcsB_out h (arcAt d c k).toNat (by omega) (by omega)).1
  rw [show (((arcAt d c k).toNat : Nat) : Int) = arcAt d c k by omega] at hcn
  obtain ⟨j, j1, j2, j3, j4⟩ := cntP_one hcn
  have hme : endP d (arcAt d c k) false (4 * c + k) = true := by rw [endP_at hk]; simp [hin]
  obtain rfl := j3 (4 * c + k) (by omega) hme
  have e := lastP_end hcn
  rw [j4] at e
  rw [← e]
  exact Prod.ext (by dsimp only; omega) (by dsimp only; omega)

theorem vis2_strand {d : Dg} (h : arcsB d = true) {r : List Int} (hr : strandsL d = [r]) : Vis2 (r.map (visA d)) d.crs.length := by
  obtain ⟨s1, s2⟩ := strands_all h
  rw [hr] at s1 s2
  simp only [List.flatten_cons, List.flatten_nil, List.append_nil] at s1 s2
  have hl := nodup_len (n := 2 * d.crs.length) s1 (fun y => by rw [s2]; omega)
  have hg : ∀ i, i < 2 * d.crs.length → 1 ≤ gi r i ∧ gi r i ≤ 2 * (d.crs.length : Int) := fun i hi => (s2 _).1 (by rw [gi_eq (by omega)]; exact List.getElem_mem _)
  have hv : ∀ i, i < 2 * d.crs.length → ga (r.map (visA d)) i = visA d (gi r i) := by
    intro i hi
    rw [ga_eq (by simp; omega), List.getElem_map, gi_eq (by omega)]
  have hmem : ∀ y : Int, 1 ≤ y → y ≤ 2 * (d.crs.length : Int) → ∃ i, i < 2 * d.crs.length ∧ gi r i = y := by
    intro y h1 h2
    obtain ⟨i, hi, e⟩ := List.getElem_of_mem ((s2 y).2 ⟨h1, h2⟩)
    exact ⟨i, by omega, by rw [gi_eq hi]; exact e⟩
  have hinj : ∀ i k, i < 2 * d.crs.length → k < 2 * d.crs.length → gi r i = gi r k → i = k := by
    intro i k hi hk e
    rw [gi_eq (by omega), gi_eq (by omega)] at e
    exact nodup_inj s1 _ _ e
  refine ⟨by simp [hl], fun i hi => ?_, fun c hc => ?_⟩
  · rw [hv i hi]
    obtain ⟨g1, g2⟩ := hg i hi
    have := (endOf_lt h (a := (gi r i).toNat) (by omega) (by omega) false).1
    rw [show (((gi r i).toNat : Nat) : Int) = gi r i by omega] at this
    unfold visA
    dsimp only
    omega
  · have key : ∀ k, k < 4 → entryB d c k = true → ∃ i, i < 2 * d.crs.length ∧ gi r i = arcAt d c k := by
      intro k hk hin
      have hr := arcs_rng h (j := 4 * c + k) (by omega)
      have ha : arcJ d (4 * c + k) = arcAt d c k := by unfold arcJ; rw [show (4 * c + k) / 4 = c by omega, show (4 * c + k) % 4 = k by omega]
      rw [ha] at hr
      exact hmem _ hr.1 hr.2
    have e0 : entryB d c 0 = true := by simp [entryB, crIn]
    have e1 : entryB d c (overIn (ga d.crs c)) = true := by
      unfold entryB overIn
      cases hp : (ga d.crs c).plus <;> simp [crIn, hp]
    have ho : overIn (ga d.crs c) < 4 ∧ overIn (ga d.crs c) ≠ 0 := by unfold overIn; split <;> omega
    obtain ⟨i, i1, i2⟩ := key 0 (by omega) e0
    obtain ⟨j, j1, j2⟩ := key _ ho.1 e1
    have f0 := endOf_at h hc (by omega) e0
    have f1 := endOf_at h hc ho.1 e1
    have hij : i ≠ j := by
      rintro rfl
      rw [i2] at j2
      rw [j2, f1] at f0
      injection f0 with _ f0
      exact ho.2 f0
    have hci : (ga (r.map (visA d)) i).c = c := by rw [hv i i1]; unfold visA; dsimp only; rw [i2, f0]
    have hcj : (ga (r.map (visA d)) j).c = c := by rw [hv j j1]; unfold visA; dsimp only; rw [j2, f1]
    have hall : ∀ k, k < 2 * d.crs.length → (ga (r.map (visA d)) k).c = c → k = i ∨ k = j := by
      intro k hk e
      rw [hv k hk] at e
      unfold visA at e
      dsimp only at e
      obtain ⟨g1, g2⟩ := hg k hk
      obtain ⟨l1, l2, _, l4, l5⟩ := endOf_lt h (a := (gi r k).toNat) (by omega) (by omega) false
      rw [show (((gi r k).toNat : Nat) : Int) = gi r k by omega] at l1 l2 l4 l5
      have hce : (endOf d (gi r k) false).1 = c := by omega
      rw [hce] at l4 l5
      have hside : (endOf d (gi r k) false).2 = 0 ∨ (endOf d (gi r k) false).2 = overIn (ga d.crs c) := by
        unfold entryB crIn at l5
        simp only [Bool.not_false, decide_eq_true_eq] at l5
        unfold overIn
        rcases l5 with h | ⟨h, hp⟩ | ⟨h, hp⟩
        · exact .inl h
        · exact .inr (by rw [hp]; simp [h])
        · exact .inr (by rw [hp]; simp [h])
      rcases hside with hs | hs
      · rw [hs] at l4
        exact .inl (hinj _ _ hk i1 (by rw [i2]; exact l4.symm))
      · rw [hs] at l4
        exact .inr (hinj _ _ hk j1 (by rw [j2]; exact l4.symm))
    rcases Nat.lt_or_gt_of_ne hij with hlt | hgt
    · exact ⟨i, j, hlt, j1, hci, hcj, hall⟩
    · exact ⟨j, i, hgt, i1, hcj, hci, fun k hk e => (hall k hk e).symm⟩

/-! ### The program's two tables, and the code -/

def dowO (v : List Vi) (N : Nat) : Nat → List Int
  | 0 => List.replicate N 0
  | m + 1 => if m % 2 = 0 then (dowO v N m).set (ga v m).c.toNat ((m : Int) + 1) else dowO v N m
def dowE (v : List Vi) (N : Nat) : Nat → List Int
  | 0 => List.replicate N 0
  | m + 1 => if m % 2 = 0 then dowE v N m else (dowE v N m).set (ga v m).c.toNat (if (ga v m).o = true then -((m : Int) + 1) else (m : Int) + 1)
theorem dowO_len (v : List Vi) (N m : Nat) : (dowO v N m).length = N := by
  induction m with
  | zero => simp [dowO]
  | succ m ih => unfold dowO; split <;> simp [ih]
theorem dowE_len (v : List Vi) (N m : Nat) : (dowE v N m).length = N := by
  induction m with
  | zero => simp [dowE]
  | succ m ih => unfold dowE; split <;> simp [ih]
theorem dowO_at {v : List Vi} {N : Nat} (hr : ∀ i, i < 2 * N → 0 ≤ (ga v i).c ∧ (ga v i).c < N) (c : Nat) (hc : c < N) (m : Nat) (hm : m ≤ 2 * N) :
    (gi (dowO v N m) c = 0 ∧ ∀ i, i < m → i % 2 = 0 → (ga v i).c ≠ c) ∨ ∃ i, i < m ∧ i % 2 = 0 ∧ (ga v i).c = c ∧ gi (dowO v N m) c = (i : Int) + 1 := by
  induction m with
  | zero => exact .inl ⟨by unfold dowO gi; simp [List.getD_eq_getElem?_getD, hc], fun i hi => by omega⟩
  | succ m ih =>
    have hv := hr m (by omega)
    unfold dowO
    by_cases h2 : m % 2 = 0
    · rw [if_pos h2, gi_set _ _ _ _ (by rw [dowO_len]; omega)]
      by_cases he : (ga v m).c.toNat = c
      · rw [if_pos he]
        exact .inr ⟨m, by omega, h2, by omega, rfl⟩
      · rw [if_neg he]
        rcases ih (by omega) with ⟨h3, h4⟩ | ⟨i, h3, h4, h5, h6⟩
        · refine .inl ⟨h3, fun i hi hi2 => ?_⟩
          rcases Nat.lt_or_ge i m with h | h
          · exact h4 i h hi2
          · obtain rfl : i = m := by omega
            omega
        · exact .inr ⟨i, by omega, h4, h5, h6⟩
    · rw [if_neg h2]
      rcases ih (by omega) with ⟨h3, h4⟩ | ⟨i, h3, h4, h5, h6⟩
      · refine .inl ⟨h3, fun i hi hi2 => ?_⟩
        rcases Nat.lt_or_ge i m with h | h
        · exact h4 i h hi2
        · obtain rfl : i = m := by omega
          exact absurd hi2 h2
      · exact .inr ⟨i, by omega, h4, h5, h6⟩
/-- What an even place writes. -/
def evV (v : List Vi) (i : Nat) : Int := if (ga v i).o = true then -((i : Int) + 1) else (i : Int) + 1
theorem evV_ne (v : List Vi) (i : Nat) : evV v i ≠ 0 := by unfold evV; split <;> omega
theorem dowE_at {v : List Vi} {N : Nat} (hr : ∀ i, i < 2 * N → 0 ≤ (ga v i).c ∧ (ga v i).c < N) (c : Nat) (hc : c < N) (m : Nat) (hm : m ≤ 2 * N) :
    (gi (dowE v N m) c = 0 ∧ ∀ i, i < m → i % 2 = 1 → (ga v i).c ≠ c) ∨ ∃ i, i < m ∧ i % 2 = 1 ∧ (ga v i).c = c ∧ gi (dowE v N m) c = evV v i := by
  induction m with
  | zero => exact .inl ⟨by unfold dowE gi; simp [List.getD_eq_getElem?_getD, hc], fun i hi => by omega⟩
  | succ m ih =>
    have hv := hr m (by omega)
    unfold dowE
    by_cases h2 : m % 2 = 0
    · rw [if_pos h2]
      rcases ih (by omega) with ⟨h3, h4⟩ | ⟨i, h3, h4, h5, h6⟩
      · refine .inl ⟨h3, fun i hi hi2 => ?_⟩
        rcases Nat.lt_or_ge i m with h | h
        · exact h4 i h hi2
        · obtain rfl : i = m := by omega
          omega
      · exact .inr ⟨i, by omega, h4, h5, h6⟩
    · rw [if_neg h2, gi_set _ _ _ _ (by rw [dowE_len]; omega)]
      by_cases he : (ga v m).c.toNat = c
      · rw [if_pos he]
        exact .inr ⟨m, by omega, by omega, by omega, rfl⟩
      · rw [if_neg he]
        rcases ih (by omega) with ⟨h3, h4⟩ | ⟨i, h3, h4, h5, h6⟩
        · refine .inl ⟨h3, fun i hi hi2 => ?_⟩
          rcases Nat.lt_or_ge i m with h | h
          · exact h4 i h hi2
          · obtain rfl : i = m := by omega
            omega
        · exact .inr ⟨i, by omega, h4, h5, h6⟩

/-- The program's last loop. -/
def dowP (O E : List Int) (N : Nat) : Nat → Option (List Int)
  | 0 => some (List.replicate N 0)
  | c + 1 => match dowP O E N c with
    | none => none
    | some out => if gi O c = 0 ∨ gi E c = 0 then none else some (out.set (gi O c / 2).toNat (gi E c))
theorem dowP_none {O E : List Int} {N : Nat} {c : Nat} (h : gi O c = 0 ∨ gi E c = 0) {m : Nat} (hm : c < m) : dowP O E N m = none := by
  induction m with
  | zero => omega
  | succ m ih =>
    unfold dowP
    rcases Nat.lt_or_ge c m with h1 | h1
    · rw [ih h1]
    · obtain rfl : c = m := by omega
      split
      · rfl
      · rw [if_pos h]

/-- Are two visits of one crossing at places of one parity? -/
def clash (v : List Vi) : Prop := ∃ i k, i < v.length ∧ k < v.length ∧ k ≠ i ∧ (ga v k).c = (ga v i).c ∧ ((k : Int) - i).tmod 2 = 0
/-- What one odd place tells. -/
def dowRow (v : List Vi) (j : Nat) : Nat → List Int
  | 0 => []
  | e + 1 => dowRow v j e ++ (if (ga v (2 * e + 1)).c = (ga v (2 * j)).c then [if (ga v (2 * e + 1)).o = true then -(2 * (e : Int) + 2) else 2 * (e : Int) + 2] else [])
def dowR (v : List Vi) (N : Nat) : Nat → List Int
  | 0 => []
  | j + 1 => dowR v N j ++ dowRow v j N

theorem dowRow_none {v : List Vi} {j e : Nat} (h : ∀ k, k < e → (ga v (2 * k + 1)).c ≠ (ga v (2 * j)).c) : dowRow v j e = [] := by
  induction e with
  | zero => rfl
  | succ e ih => unfold dowRow; rw [ih fun k hk => h k (by omega), if_neg (h e (by omega))]; rfl
theorem dowRow_one {v : List Vi} {j e b : Nat} (hb : b < e) (h1 : (ga v (2 * b + 1)).c = (ga v (2 * j)).c) (h : ∀ k, k < e → (ga v (2 * k + 1)).c = (ga v (2 * j)).c → k = b) : dowRow v j e = [evV v (2 * b + 1)] := by
  induction e with
  | zero => omega
  | succ e ih =>
    unfold dowRow
    rcases Nat.lt_or_ge b e with h2 | h2
    · rw [ih h2 fun k hk => h k (by omega), if_neg (fun e' => by have := h e (by omega) e'; omega)]; simp
    · obtain rfl : b = e := by omega
      rw [dowRow_none fun k hk e' => by have := h k (by omega) e'; omega, if_pos h1]
      unfold evV
      simp only [List.nil_append]
      congr 1

theorem tmod2 (i k : Nat) : ((k : Int) - i).tmod 2 = 0 ↔ i % 2 = k % 2 := by
  rw [← Int.dvd_iff_tmod_eq_zero]
  omega

theorem dow_clash {v : List Vi} {N : Nat} (h : Vis2 v N) (hc : clash v) : dowP (dowO v N (2 * N)) (dowE v N (2 * N)) N N = none := by
  obtain ⟨i, k, hi, hk, hne, he, hp⟩ := hc
  rw [h.len] at hi hk
  rw [tmod2] at hp
  obtain ⟨c0, c1⟩ := h.rng i hi
  obtain ⟨p, q, _, hq, h1, h2, h3⟩ := h.two (ga v i).c.toNat (by omega)
  have hi' := h3 i hi (by omega)
  have hk' := h3 k hk (by omega)
  refine dowP_none (c := (ga v i).c.toNat) ?_ (by omega)
  by_cases h0 : i % 2 = 0
  · right
    rcases dowE_at h.rng (ga v i).c.toNat (by omega) (2 * N) (Nat.le_refl _) with ⟨h5, _⟩ | ⟨m, h5, h6, h7, _⟩
    · exact h5
    · have := h3 m h5 h7
      omega
  · left
    rcases dowO_at h.rng (ga v i).c.toNat (by omega) (2 * N) (Nat.le_refl _) with ⟨h5, _⟩ | ⟨m, h5, h6, h7, _⟩
    · exact h5
    · have := h3 m h5 h7
      omega

theorem dow_fine {v : List Vi} {N : Nat} (h : Vis2 v N) (hc : ¬ clash v) : dowP (dowO v N (2 * N)) (dowE v N (2 * N)) N N = some (dowR v N N) ∧
    (∀ c, c < N → ∃ a b, a < N ∧ b < N ∧ gi (dowO v N (2 * N)) c = 2 * (a : Int) + 1 ∧ gi (dowE v N (2 * N)) c = evV v (2 * b + 1) ∧ (ga v (2 * a)).c = c ∧ (ga v (2 * b + 1)).c = c) := by
  have key : ∀ c, c < N → ∃ a b, a < N ∧ b < N ∧ gi (dowO v N (2 * N)) c = 2 * (a : Int) + 1 ∧ gi (dowE v N (2 * N)) c = evV v (2 * b + 1) ∧ (ga v (2 * a)).c = c ∧ (ga v (2 * b + 1)).c = c ∧
      (∀ k, k < N → (ga v (2 * k)).c = c → k = a) ∧ (∀ k, k < N → (ga v (2 * k + 1)).c = c → k = b) := by
    intro c hcN
    obtain ⟨p, q, hpq, hq, h1, h2, h3⟩ := h.two c hcN
    have hpar : p % 2 ≠ q % 2 := fun e => hc ⟨p, q, by rw [h.len]; omega, by rw [h.len]; omega, by omega, by rw [h1, h2], (tmod2 p q).2 e⟩
    have ev : ∃ a, a < N ∧ (ga v (2 * a)).c = c ∧ (2 * a = p ∨ 2 * a = q) := by
      by_cases h0 : p % 2 = 0
      · exact ⟨p / 2, by omega, by rw [show 2 * (p / 2) = p by omega]; exact h1, .inl (by omega)⟩
      · exact ⟨q / 2, by omega, by rw [show 2 * (q / 2) = q by omega]; exact h2, .inr (by omega)⟩
    have od : ∃ b, b < N ∧ (ga v (2 * b + 1)).c = c ∧ (2 * b + 1 = p ∨ 2 * b + 1 = q) := by
      by_cases h0 : p % 2 = 1
      · exact ⟨p / 2, by omega, by rw [show 2 * (p / 2) + 1 = p by omega]; exact h1, .inl (by omega)⟩
      · exact ⟨q / 2, by omega, by rw [show 2 * (q / 2) + 1 = q by omega]; exact h2, .inr (by omega)⟩
    obtain ⟨a, a1, a2, a3⟩ := ev
    obtain ⟨b, b1, b2, b3⟩ := od
    refine ⟨a, b, a1, b1, ?_, ?_, a2, b2, fun k hk e => ?_, fun k hk e => ?_⟩
    · rcases dowO_at h.rng c hcN (2 * N) (Nat.le_refl _) with ⟨_, h5⟩ | ⟨m, h5, h6, h7, h8⟩
      · exact absurd a2 (h5 (2 * a) (by omega) (by omega))
      · rw [h8]
        have := h3 m h5 h7
        omega
    · rcases dowE_at h.rng c hcN (2 * N) (Nat.le_refl _) with ⟨_, h5⟩ | ⟨m, h5, h6, h7, h8⟩
      · exact absurd b2 (h5 (2 * b + 1) (by omega) (by omega))
      · rw [h8]
        have := h3 m h5 h7
        rw [show m = 2 * b + 1 by omega]
    · have := h3 (2 * k) (by omega) e
      omega
    · have := h3 (2 * k + 1) (by omega) e
      omega
  refine ⟨?_, fun c hcN => by obtain ⟨a, b, h1, h2, h3, h4, h5, h6, _⟩ := key c hcN; exact ⟨a, b, h1, h2, h3, h4, h5, h6⟩⟩
  have hrow : ∀ j, j < N → dowRow v j N = [gi (dowE v N (2 * N)) (ga v (2 * j)).c.toNat] := by
    intro j hj
    obtain ⟨r0, r1⟩ := h.rng (2 * j) (by omega)
    obtain ⟨a, b, h1, h2, h3, h4, h5, h6, h7, h8⟩ := key (ga v (2 * j)).c.toNat (by omega)
    rw [dowRow_one h2 (by omega) fun k hk e => h8 k hk (by omega), h4]
  have hR : ∀ m, m ≤ N → dowR v N m = (List.range m).map fun j => gi (dowE v N (2 * N)) (ga v (2 * j)).c.toNat := by
    intro m hm
    induction m with
    | zero => rfl
    | succ m ih => unfold dowR; rw [ih (by omega), hrow m (by omega), List.range_succ, List.map_append]; rfl
  have hP : ∀ m, m ≤ N → ∃ out, dowP (dowO v N (2 * N)) (dowE v N (2 * N)) N m = some out ∧ out.length = N ∧ ∀ j, j < N → (ga v (2 * j)).c < m → gi out j = gi (dowE v N (2 * N)) (ga v (2 * j)).c.toNat := by
    intro m hm
    induction m with
    | zero => exact ⟨_, rfl, by simp, fun j hj e => by have := h.rng (2 * j) (by omega); omega⟩
    | succ m ih =>
      obtain ⟨out, o1, o2, o3⟩ := ih (by omega)
      obtain ⟨a, b, h1, h2, h3, h4, h5, h6, h7, h8⟩ := key m (by omega)
      refine ⟨out.set a (gi (dowE v N (2 * N)) m), ?_, by simp [o2], fun j hj e => ?_⟩
      · unfold dowP
        rw [o1]
        dsimp only
        rw [if_neg (by rw [h3, h4]; have := evV_ne v (2 * b + 1); omega), h3]
        congr 2
        omega
      · rw [gi_set _ _ _ _ (by omega)]
        by_cases hm' : (ga v (2 * j)).c = (m : Int)
        · rw [if_pos (h7 j hj hm').symm, hm']; rfl
        · rw [if_neg (by rintro rfl; exact hm' h5)]
          exact o3 j hj (by omega)
  obtain ⟨out, o1, o2, o3⟩ := hP N (Nat.le_refl _)
  rw [o1, hR N (Nat.le_refl _)]
  congr 1
  apply gi_ext (by simp [o2])
  intro j hj
  rw [o3 j (by omega) (h.rng (2 * j) (by omega)).2]
  have hj' : j < N := by omega
  unfold gi
  simp [hj']
end Go.Proofs.Ytlbpgnimpcflaaa
