/-
  TangleExpands: for every input the law's call returns true and changes nothing that it was handed. No condition.
-/
import Derived.Test.YtkgofmloleicgaaLaw
import Derived.Test.YtkgofmloleicgaaExp
import Derived.Test.YtkgofmloleicgaaSameInts
namespace Go.Proofs.Ytkgofmloleicgaa
open Go.ChangeShapes Go.WideShapes Go.ChangeAt Go.RowKit

set_option maxHeartbeats 1000000 in
theorem lawExpands (p q : Int) (w : World) : Calls Try.prog 4 #[.int .i64 p, .int .i64 q] w (TruePost w) := by
  cases h1 : lowB p q
  · have H1 := Lib.hid h1
    clear h1
    go_enter Try.func4, Try.ntmps4
    go_wp2_with fail
    refine (expand_no _ _ _ H1.out).mono ?_; rintro e w1 ⟨rfl, hb1⟩
    go_wp2_with fail
    refine (lowest_any _ _ _).mono ?_; rintro e w2 ⟨rfl, hb2⟩; rw [H1.out]
    go_wp2_with fail
    go_ret
    exact ⟨rfl, hb1.trans hb2⟩
  · have r1 := low_range h1
    obtain ⟨a, rfl⟩ := Int.eq_ofNat_of_zero_le (show 0 ≤ p by omega)
    obtain ⟨b, rfl⟩ := Int.eq_ofNat_of_zero_le (show 0 ≤ q by omega)
    have H1 := Lib.hid h1
    clear h1
    obtain ⟨r1a, r1b, r1c, r1d, r1e⟩ := r1
    clear r1e
    go_enter Try.func4, Try.ntmps4
    go_wp2_with fail
    refine (expand_yes _ _ _ H1.out (by omega) (by omega) (by omega)).mono ?_; rintro e w1 ⟨v, rfl, hi1, hb1⟩
    go_wp2_with fail
    refine (lowest_any _ _ _).mono ?_; rintro e w2 ⟨rfl, hb2⟩; rw [H1.out]
    have hb2' : Kp w1 w2 := hb2
    go_wp2_with fail
    refine (expandRef _ _ _ (by omega) (by omega) (by omega)).mono ?_; rintro e w3 ⟨v', rfl, hi3, hb3⟩
    go_wp2_with fail
    refine (same_ints _ _ _ _ _ ((hi1.below (hb2'.trans hb3).below).mono (hb2'.trans hb3).size) hi3 (Nat.le_refl _)).mono ?_; rintro e w4 ⟨rfl, hb4⟩
    go_wp2_with fail
    go_ret
    exact ⟨rfl, ((hb1.trans hb2').trans hb3).trans hb4⟩

theorem own : ownKnob Try.prog.godebug = none := by kernel_rfl

set_option maxRecDepth 100000 in
theorem expands_lifted (os : Os) (started : os.Started) (H : Type) (enc : TypeId × Value → H) :
    ReturnsInHanded {} Try.checked os 4 .any (Rows.tangleExpandsSpec.pre6 enc Try.prog Try.f4 Rows.tangleExpandsRow.domain false) (Rows.tangleExpandsSpec.post enc Try.prog Try.f4 false true false false) := by
  refine law_lift (C := Try.checked) (tb := 4) own started (by kernel_rfl) Try.func4
    (ChangeSpec.witness6 (enc := enc) (C := Try.checked) false ⟨#[], #[.int .i64 0, .int .i64 0], []⟩ 8 (by kernel_rfl) (by kernel_rfl) (by kernel_rfl) (by kernel_rfl))
    rfl (by kernel_rfl) (by kernel_rfl) rfl Try.underlying4 ?_ ?_
  · intro ds hds
    match ds, hds with
    | [d1, d2], _ => rfl
  · intro W base args ds p hval hA _ _ _
    rw [Try.params4] at hA hval
    obtain ⟨v0, vs0, d0, ds0, p0, q0, hargs, rfl, rfl, h0, r0⟩ := trodAll_cons hA
    obtain ⟨v1, vs1, d1, ds1, p1, q1, rfl, rfl, rfl, h1, r1⟩ := trodAll_cons r0
    obtain ⟨rfl, rfl, rfl⟩ := trodAll_nil r1
    obtain rfl : args = #[v0, v1] := by cases args; simp_all
    obtain ⟨a0, rfl, rfl, rfl, w0⟩ := open_int Try.underlying3 (hval 0 3 v0 rfl rfl) h0
    obtain ⟨a1, rfl, rfl, rfl, w1⟩ := open_int Try.underlying3 (hval 1 3 v1 rfl rfl) h1
    exact lawExpands a0 a1 W

theorem tangleExpands_holds : Rows.TangleExpandsSaid :=
  OpenClaim.holds_of_wide 4 Try.f4 rfl rfl rfl rfl rfl rfl rfl ⟨rfl, rfl, rfl, rfl, rfl⟩ rfl rfl rfl rfl rfl (by kernel_rfl) Try.func4 (by kernel_rfl)
    (of_decide_eq_true (by kernel_rfl)) (by unfold Func.isWrapper; first | (rw [if_pos (by decide +kernel)]; kernel_rfl) | (rw [if_neg (by decide +kernel)]; exact ⟨rfl, rfl⟩))
    (fun os started H enc _ => expands_lifted os started H enc)
#print axioms tangleExpands_holds
end Go.Proofs.Ytkgofmloleicgaa
