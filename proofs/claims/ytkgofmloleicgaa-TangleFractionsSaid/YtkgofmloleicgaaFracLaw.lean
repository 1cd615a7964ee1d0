/-
  TangleFractions: for every input the law's call returns true and changes nothing that it was handed. No condition.
-/
import Derived.Test.YtkgofmloleicgaaLaw
import Derived.Test.YtkgofmloleicgaaFrac1
import Derived.Test.YtkgofmloleicgaaCopyInts
namespace Go.Proofs.Ytkgofmloleicgaa
open Go.ChangeShapes Go.WideShapes Go.ChangeAt Go.RowKit

def TruePost' (w : World) (e : Ending) (w' : World) : Prop := e = .returned (.bool true) ∧ Kp w w'

theorem ints_kp {w w' : World} {v : Value} {l : List Int} (h : Ints w w.heap.size v l) (k : Kp w w') : Ints w' w'.heap.size v l := (h.below k.below).mono k.size

set_option maxHeartbeats 1000000 in
theorem lawFractions (v : Value) (l : List Int) (w : World) (hi : Ints w w.heap.size v l) (_hw : ∀ x ∈ l, (Lit.int .i64 x).wf = true) :
    Calls Try.prog 5 #[v] w (TruePost' w) := by
  by_cases h : chkL l = 0
  · have H1 := Lib.hid (fun v' w' (h' : Ints w' w'.heap.size v' l) => fraction_yes v' l w' h' h)
    have H2 := Lib.hid (fun v' w' (h' : Ints w' w'.heap.size v' l) => fractionRef v' l w' h' h)
    have H3 := Lib.hid (fun v' w' (h' : Ints w' w'.heap.size v' l) => listMay_any v' l w' h')
    rw [h] at H3
    clear h
    generalize nrm (rf l) = x at *
    go_enter Try.func5, Try.ntmps5
    go_wp2_with fail
    refine (ints_any _ _ _ hi).mono ?_; rintro e w1 ⟨v1, rfl, hi1, hk1⟩
    go_wp2_with fail
    refine (H1.out _ _ hi1).mono ?_; rintro e w2 ⟨rfl, hk2⟩
    have k2 := hk1.trans hk2
    go_wp2_with fail
    refine (H3.out _ _ (ints_kp hi k2)).mono ?_; rintro e w3 ⟨rfl, hk3⟩
    have k3 := k2.trans hk3
    go_wp2_with fail
    refine (H2.out _ _ (ints_kp hi k3)).mono ?_; rintro e w4 ⟨rfl, hk4⟩
    have k4 := k3.trans hk4
    go_wp2_with fail
    go_ret
    exact ⟨by simp, k4⟩
  · have H1 := Lib.hid (fun v' w' (h' : Ints w' w'.heap.size v' l) => fraction_no v' l w' h' h)
    have H3 := Lib.hid (fun v' w' (h' : Ints w' w'.heap.size v' l) => listMay_any v' l w' h')
    generalize chkL l = n at *
    have e1 : ((n != 0) : Bool) = true := by rw [bne_iff_ne]; exact h
    clear h
    go_enter Try.func5, Try.ntmps5
    go_wp2_with fail
    refine (ints_any _ _ _ hi).mono ?_; rintro e w1 ⟨v1, rfl, hi1, hk1⟩
    go_wp2_with fail
    refine (H1.out _ _ hi1).mono ?_; rintro e w2 ⟨rfl, hk2⟩
    have k2 := hk1.trans hk2
    go_wp2_with fail
    refine (H3.out _ _ (ints_kp hi k2)).mono ?_; rintro e w3 ⟨rfl, hk3⟩
    have k3 := k2.trans hk3
    go_wp2_with fail
    go_ret
    exact ⟨by simp, k3⟩

set_option maxRecDepth 100000 in
theorem tangleFractions_lifted (os : Os) (started : os.Started) (H : Type) (enc : TypeId × Value → H) :
    ReturnsInHanded {} Try.checked os 5 .any (Rows.tangleFractionsSpec.pre6 enc Try.prog Try.f5 Rows.tangleFractionsRow.domain false) (Rows.tangleFractionsSpec.post enc Try.prog Try.f5 false true false false) := by
  refine law_lift (C := Try.checked) (tb := 4) (by kernel_rfl) started (by kernel_rfl) Try.func5
    (ChangeSpec.witness6 (enc := enc) (C := Try.checked) false ⟨#[], #[.slice none 0 0], []⟩ 8 (by kernel_rfl) (by kernel_rfl) (by kernel_rfl) (by kernel_rfl))
    rfl (by kernel_rfl) (by kernel_rfl) rfl Try.underlying4 ?_ ?_
  · intro ds hds
    match ds, hds with
    | [d0], _ => rfl
  · intro W base args ds p hval hA _ hlt hsz
    rw [Try.params5] at hA hval hsz
    obtain ⟨v0, vs0, d0, ds0, p0, q0, hargs, rfl, rfl, h0, r0⟩ := trodAll_cons hA
    obtain ⟨rfl, rfl, rfl⟩ := trodAll_nil r0
    obtain rfl : args = #[v0] := by cases args; simp_all
    obtain ⟨a0, i0, w0⟩ := open_Ints Try.underlying27 Try.underlying3 (by kernel_rfl) (by kernel_rfl) (hval 0 27 v0 rfl rfl) h0 (fun x hx => hlt x (by simp [hx])) hsz (j := 0) rfl rfl
    exact lawFractions v0 a0 W i0 w0

theorem tangleFractions_holds : Rows.TangleFractionsSaid :=
  OpenClaim.holds_of_wide 5 Try.f5 rfl rfl rfl rfl rfl rfl rfl ⟨rfl, rfl, rfl, rfl, rfl⟩ rfl rfl rfl rfl rfl (by kernel_rfl) Try.func5 (by kernel_rfl)
    (of_decide_eq_true (by kernel_rfl)) (by unfold Func.isWrapper; first | (rw [if_pos (by decide +kernel)]; kernel_rfl) | (rw [if_neg (by decide +kernel)]; exact ⟨rfl, rfl⟩))
    (fun os started H enc _ => tangleFractions_lifted os started H enc)
#print axioms tangleFractions_holds
end Go.Proofs.Ytkgofmloleicgaa
