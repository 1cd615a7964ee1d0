/- The law ClosureCloses. -/
import Derived.Test.YthfiblbkkjcliaaC5
import Derived.Test.YthfiblbkkjcliaaMem
import Derived.Test.YthfiblbkkjcliaaLaw
namespace Go.Proofs.Ythfiblbkkjcliaa
open Go.ChangeShapes Go.WideShapes Go.ChangeAt Go.RowKit

theorem RdA.of_sl {α : Type} {C : Cd α} {w : World} {B c : Nat} {A : Option Addr} {xs : List α} (hc : xs.length ≤ c) (hk : 0 < C.k) (h : Sl w B C.k C.u8 A xs.length (xs.flatMap C.f)) : RdA C (hp w) A c xs := by
  refine ⟨hc, h.2.1, fun h0 => ?_⟩
  obtain ⟨b, off, rfl, _, hat⟩ := h.2.2 h0
  refine ⟨rfl, ?_⟩
  have hlen : 0 < (xs.flatMap C.f).length := by rw [flat_len C.hf]; exact Nat.mul_pos h0 hk
  have h1 := hat 0 _ (List.getElem?_eq_getElem hlen)
  show ∃ cs T fz, w.heap[b]? = some (.cells cs T fz) ∧ ∀ j u, (xs.flatMap C.f)[j]? = some u → cs[off + j]? = some u
  unfold World.cell? at h1
  split at h1
  · rename_i cs T fz hb
    refine ⟨cs, T, fz, hb, fun j u hu => ?_⟩
    have := hat j u hu
    rw [cell_of_row w b _ cs T fz hb] at this
    exact this
  · cases h1
theorem Ints.rd {w : World} {B : Nat} {v : Value} {xs : List Int} (h : Ints w B v xs) : ∃ A c, v = .slice A xs.length c ∧ RdA cdInt (hp w) A c xs := by
  obtain ⟨A, c, rfl, hc, h⟩ := h
  have e : xs.flatMap cdInt.f = xs.map iv := by
    clear h hc
    induction xs with
    | nil => rfl
    | cons x xs ih => rw [List.flatMap_cons, ih]; rfl
  have h2 : Sl w B cdInt.k cdInt.u8 A xs.length (xs.flatMap cdInt.f) := by rw [e]; exact h
  exact ⟨A, c, rfl, RdA.of_sl (C := cdInt) hc (by decide) h2⟩
theorem lawCloses (x : Int) (u : Value) (l : List Int) (W : World) (hu : Ints W W.heap.size u l) :
    Calls Try.prog 4 #[.int .i64 x, u] W fun e W' => e = .returned (.bool true) ∧ Below W.heap.size W W' := by
  obtain ⟨A, c, rfl, h⟩ := hu.rd
  exact law_of_ct (ClosureCloses_t x l h (SH.start W))
set_option maxRecDepth 100000 in
theorem closureCloses_lifted (os : Os) (started : os.Started) (H : Type) (enc : TypeId × Value → H) :
    ReturnsInHanded {} Try.checked os 4 .any (Rows.closureClosesSpec.pre6 enc Try.prog Try.f4 Rows.closureClosesRow.domain false) (Rows.closureClosesSpec.post enc Try.prog Try.f4 false true false false) := by
  refine law_lift (C := Try.checked) (tb := 4) (by kernel_rfl) started (by kernel_rfl) Try.func4
    (ChangeSpec.witness6 (enc := enc) (C := Try.checked) false ⟨#[], #[.int .i64 0, .slice none 0 0], []⟩ 8 (by kernel_rfl) (by kernel_rfl) (by kernel_rfl) (by kernel_rfl))
    rfl (by kernel_rfl) (by kernel_rfl) rfl Try.underlying4 ?_ ?_
  · intro ds hds
    match ds, hds with
    | [d0, d1], _ => rfl
  · intro W base args ds p hval hA _ hlt hsz
    rw [Try.params4] at hA hval hsz
    obtain ⟨v0, vs0, d0, ds0, p0, q0, hargs, rfl, rfl, h0, r0⟩ := trodAll_cons hA
    obtain ⟨v1, vs1, d1, ds1, p1, q1, rfl, rfl, rfl, h1, r1⟩ := trodAll_cons r0
    obtain ⟨rfl, rfl, rfl⟩ := trodAll_nil r1
    obtain rfl : args = #[v0, v1] := by cases args; simp_all
    obtain ⟨a0, rfl, rfl, rfl, w0⟩ := open_int Try.underlying3 (hval 0 3 v0 rfl rfl) h0
    obtain ⟨a1, i1, w1⟩ := open_Ints Try.underlying22 Try.underlying3 (by kernel_rfl) (by kernel_rfl) (hval 1 22 v1 rfl rfl) h1 (fun x hx => hlt x (by simp [hx])) hsz (j := 1) rfl rfl
    exact lawCloses a0 v1 a1 W i1

theorem closureCloses_holds : Rows.ClosureClosesSaid :=
  OpenClaim.holds_of_wide 4 Try.f4 rfl rfl rfl rfl rfl rfl rfl ⟨rfl, rfl, rfl, rfl, rfl⟩ rfl rfl rfl rfl rfl (by kernel_rfl) Try.func4 (by kernel_rfl)
    (of_decide_eq_true (by kernel_rfl)) (by unfold Func.isWrapper; first | (rw [if_pos (by decide +kernel)]; kernel_rfl) | (rw [if_neg (by decide +kernel)]; exact ⟨rfl, rfl⟩))
    (fun os started H enc _ => closureCloses_lifted os started H enc)
#print axioms closureCloses_holds
end Go.Proofs.Ythfiblbkkjcliaa
