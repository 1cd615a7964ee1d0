/- Visits of strands: plain facts, and words for lists of lists. -/
import Derived.Test.YtlbpgnimpcflaaaRng2
namespace Go.Proofs.Ytlbpgnimpcflaaa
open Go.ChangeShapes Go.WideShapes Go.ChangeAt Go.RowKit

theorem ringF_mem {nx : Nat → Nat} {M : Nat} (hnx : ∀ a, 1 ≤ a → a ≤ M → 1 ≤ nx a ∧ nx a ≤ M) (seen : List Bool) (x : Nat) (acc : List Int) (h0 : 1 ≤ x) (h1 : x ≤ M) (hacc : ∀ y ∈ acc, 1 ≤ y ∧ y ≤ (M : Int)) :
    (∀ y ∈ (ringF nx seen x acc).2, 1 ≤ y ∧ y ≤ (M : Int)) ∧ (ringF nx seen x acc).2.length ≤ acc.length + free seen := by
  induction hk : free seen using Nat.strongRecOn generalizing seen x acc with
  | _ k ih =>
    by_cases h : x < seen.length ∧ ga seen x = false
    · rw [ringF_go h.1 h.2]
      have hf := free_set h.1 h.2
      obtain ⟨n0, n1⟩ := hnx x h0 h1
      obtain ⟨r1, r2⟩ := ih (free (seen.set x true)) (by omega) (seen.set x true) (nx x) (acc ++ [(x : Int)]) n0 n1 (by
        intro y hy
        rw [List.mem_append, List.mem_singleton] at hy
        rcases hy with hy | rfl
        · exact hacc y hy
        · omega) rfl
      refine ⟨r1, ?_⟩
      rw [List.length_append, List.length_singleton] at r2
      omega
    · rw [ringF]; simp [h]; exact hacc
theorem ringsF_mem {nx : Nat → Nat} {M : Nat} (hnx : ∀ a, 1 ≤ a → a ≤ M → 1 ≤ nx a ∧ nx a ≤ M) (A : Nat) (hA : A ≤ M) :
    (∀ r ∈ (ringsF nx (M + 1) A).2, (∀ y ∈ r, 1 ≤ y ∧ y ≤ (M : Int)) ∧ r.length ≤ M + 1) ∧ (ringsF nx (M + 1) A).2.length ≤ A := by
  induction A with
  | zero => simp [ringsF]
  | succ A ih =>
    obtain ⟨i1, i2⟩ := ih (by omega)
    cases hg : ga (ringsF nx (M + 1) A).1 (A + 1)
    · rw [ringsF_ring hg]
      dsimp only
      obtain ⟨r1, r2⟩ := ringF_mem hnx (ringsF nx (M + 1) A).1 (A + 1) [] (by omega) hA (by simp)
      have hf : free (ringsF nx (M + 1) A).1 ≤ (ringsF nx (M + 1) A).1.length := List.countP_le_length
      rw [ringsF_len] at hf
      refine ⟨?_, by simp; omega⟩
      intro r hr
      rw [List.mem_append, List.mem_singleton] at hr
      rcases hr with hr | rfl
      · exact i1 r hr
      · exact ⟨r1, by simp at r2; omega⟩
    · rw [ringsF_skip hg]
      exact ⟨i1, by omega⟩
theorem strandsL_mem {d : Dg} (h : arcsB d = true) : (∀ r ∈ strandsL d, (∀ y ∈ r, 1 ≤ y ∧ y ≤ 2 * (d.crs.length : Int)) ∧ r.length ≤ 2 * d.crs.length + 1) ∧ (strandsL d).length ≤ 2 * d.crs.length := by
  have := ringsF_mem (nx := nextN d) (M := 2 * d.crs.length) (fun a h0 h1 => (nextN_eq h h0 h1).2) (2 * d.crs.length) (Nat.le_refl _)
  refine ⟨fun r hr => ⟨fun y hy => ?_, (this.1 r hr).2⟩, this.2⟩
  have := (this.1 r hr).1 y hy
  omega

structure Vi where
  c : Int
  o : Bool
instance : Inhabited Vi := ⟨⟨0, false⟩⟩
def codVi : Cod Vi := ⟨fun x => [.int .i64 x.c, .bool x.o], 2, 16, fun _ => rfl⟩
theorem slVi : SlT Try.prog 24 70 2 16 (.agg #[.int .i64 0, .bool false]) := ⟨Try.underlying24, by kernel_rfl, rfl, by omega, by omega⟩
theorem slVis : SlT Try.prog 22 24 1 24 (.slice none 0 0) := ⟨Try.underlying22, by kernel_rfl, rfl, by omega, by omega⟩

/-- The visit to which an arc comes. -/
def visA (d : Dg) (a : Int) : Vi := ⟨(endOf d a false).1, decide ((endOf d a false).2 ≠ 0)⟩
def visL (d : Dg) : List (List Vi) := (strandsL d).map fun r => r.map (visA d)

theorem end_odd {d : Dg} (h : arcsB d = true) {a : Nat} (h0 : 1 ≤ a) (h1 : a ≤ 2 * d.crs.length) : ((((endOf d a false).2 : Int) % 2 == 1) : Bool) = decide ((endOf d a false).2 ≠ 0) := by
  obtain ⟨_, e2, _, _, e5⟩ := endOf_lt h h0 h1 false
  unfold entryB crIn at e5
  simp only [Bool.not_false, decide_eq_true_eq] at e5
  rw [Bool.eq_iff_iff, beq_iff_eq, decide_eq_true_iff]
  omega

theorem vAt {w : World} {B : Nat} {A : Option Addr} {vs : List Value} (h : Rd codV w B A vs) {i : Nat} (hi : i < vs.length) : ∃ b off, A = some ⟨b, off, none⟩ ∧ b < B ∧ w.cell? ⟨b, off + i, none⟩ = some (ga vs i) := by
  obtain ⟨b, off, e, hb, hc⟩ := h.at_ hi
  have := hc 0 (ga vs i) (by decide) rfl
  exact ⟨b, off, e, hb, by simpa [codV] using this⟩

/-- v, below block B, reads as the lists xss. -/
def RvR {α : Type} (C : Cod α) (w : World) (B : Nat) (v : Value) (xss : List (List α)) : Prop :=
  ∃ vs : List Value, vs.length = xss.length ∧ Rv codV w B v vs ∧ ∀ i, i < xss.length → Rv C w B (ga vs i) (ga xss i)
theorem RvR.kp {α : Type} {C : Cod α} {w w' : World} {v : Value} {xss : List (List α)} (h : RvR C w w.heap.size v xss) (k : Kp w w') : RvR C w' w'.heap.size v xss := by
  obtain ⟨vs, h1, h2, h3⟩ := h
  exact ⟨vs, h1, h2.kp k, fun i hi => (h3 i hi).kp k⟩
/-- Lists of the call's own: T: the type of a list, E: of an element. -/
def OrG {α : Type} (C : Cod α) (T E : TypeId) (w : World) (base : Nat) (v : Value) (xss : List (List α)) : Prop :=
  ∃ vs : List Value, vs.length = xss.length ∧ Ow codV T w base v vs ∧ ∀ i, i < xss.length → Ow C E w base (ga vs i) (ga xss i) ∧ (ga xss i).length ≤ 100
section
variable {α : Type} {C : Cod α} {T E : TypeId} {w w' : World} {base : Nat} {v : Value} {xss : List (List α)}
theorem OrG.nil_ : OrG C T E w base (.slice none 0 0) [] := ⟨[], rfl, Ow.nil_, fun i hi => by simp at hi⟩
theorem OrG.kp (h : OrG C T E w base v xss) (k : Kp w w') : OrG C T E w' base v xss := by
  obtain ⟨vs, h1, h2, h3⟩ := h
  exact ⟨vs, h1, h2.kp k, fun i hi => ⟨(h3 i hi).1.kp k, (h3 i hi).2⟩⟩
theorem OrG.rvR (h : OrG C T E w base v xss) (hr : xss.length ≤ 100) (h8 : C.u8 ≤ 100) : RvR C w w.heap.size v xss := by
  obtain ⟨vs, h1, h2, h3⟩ := h
  refine ⟨vs, h1, h2.rv (by show vs.length * 24 ≤ _; omega), fun i hi => (h3 i hi).1.rv ?_⟩
  have := Nat.mul_le_mul (h3 i hi).2 h8
  omega
theorem OrG.push {v' : Value} {vs : List Value} {r : List α} {y : Value} (hne : E ≠ T) (h1 : vs.length = xss.length) (h2 : Ow codV T w base v vs) (h3 : ∀ i, i < xss.length → Ow C E w base (ga vs i) (ga xss i) ∧ (ga xss i).length ≤ 100)
    (hy : Ow C E w base y r) (hr : r.length ≤ 100) (hv : Ow codV T w' base v' (vs ++ [y])) (hg : Gr w w' v.ownBlock) : OrG C T E w' base v' (xss ++ [r]) := by
  refine ⟨vs ++ [y], by simp [h1], hv, fun i hi => ?_⟩
  rw [List.length_append, List.length_singleton] at hi
  by_cases hl : i < xss.length
  · rw [ga_append_left _ _ _ (by omega), ga_append_left _ _ _ hl]
    exact ⟨(h3 i hl).1.kept hg ((h3 i hl).1.ne_ h2 hne), (h3 i hl).2⟩
  · rw [ga_append_right _ _ _ (by omega), ga_append_right _ _ _ (by omega), show i - vs.length = 0 by omega, show i - xss.length = 0 by omega]
    exact ⟨hy.kept hg (hy.ne_ h2 hne), hr⟩
end
theorem map_take {α β : Type} [Inhabited α] (f : α → β) (xs : List α) (k : Nat) (h : k < xs.length) : (xs.map f).take (k + 1) = (xs.map f).take k ++ [f (ga xs k)] := by
  rw [List.take_succ_eq_append_getElem (by simpa using h), List.getElem_map, ga_eq h]
theorem map_take_gi {β : Type} (f : Int → β) (xs : List Int) (k : Nat) (h : k < xs.length) : (xs.map f).take (k + 1) = (xs.map f).take k ++ [f (gi xs k)] := by
  rw [List.take_succ_eq_append_getElem (by simpa using h), List.getElem_map, gi_eq h]
def VissPost (xss : List (List Vi)) (w : World) (e : Ending) (w' : World) : Prop := ∃ v, e = .returned v ∧ RvR codVi w' w'.heap.size v xss ∧ Kp w w'
end Go.Proofs.Ytlbpgnimpcflaaa
