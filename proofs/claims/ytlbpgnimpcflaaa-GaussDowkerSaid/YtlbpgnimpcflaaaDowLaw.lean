/- The law GaussDowker. -/
import Derived.Test.YtlbpgnimpcflaaaDow2
import Derived.Test.YtlbpgnimpcflaaaOpn
import Derived.Test.YtlbpgnimpcflaaaLaw
namespace Go.Proofs.Ytlbpgnimpcflaaa
open Go.ChangeShapes Go.WideShapes Go.ChangeAt Go.RowKit

set_option maxRecDepth 100000 in
set_option maxHeartbeats 4000000 in
theorem lawDowker (v : Value) (d : Dg) (w : World) (hd : IsDg w w.heap.size v d) : Calls Try.prog 6 #[v] w (YesPost w) := by
  obtain ⟨A, cap, rfl, hcap, hr⟩ := hd
  have hD := Lib.hid fun w' (hk : Kp w w') => (show IsDg w' w'.heap.size (.agg #[.slice A d.crs.length cap, .int .i64 d.loops]) d from ⟨A, cap, rfl, hcap, hr.kp hk⟩)
  have hm := Lib.hid (may_arcs (d := d))
  have hmayC := Lib.hid fun w' (hk : Kp w w') => diagramMay_any _ d w' (hD.out w' hk)
  have hdowC := Lib.hid fun v' w' (h : IsDg w' w'.heap.size v' d) => dowker_any v' d w' h
  clear hr
  generalize mayB d = b at *
  go_enter Try.func6, Try.ntmps6
  go_wp2_with fail
  refine (diagramOf_any _ d _ (hD.out _ ((Kp.refl _).alloc _))).mono ?_; rintro e w1 ⟨v1, rfl, hd1, hk1⟩
  have hx1 := Lib.hid ((Blk.new w 27 #[.slice A d.crs.length cap, .int .i64 d.loops]).kp hk1)
  go_wp2_with fail
  refine (hdowC.out _ _ hd1).mono ?_
  rintro e w2 (⟨hb0, rfl, hk2⟩ | ⟨hb1, v2, rfl, hi2, hk2⟩)
  · have hb0' := Lib.hid hb0
    clear hb0 hd1
    obtain ⟨x0, x1, x2, x3⟩ := (hx1.out.kp hk2).two
    have hkw2 := hk1.al.trans hk2
    go_wp2_with fail
    refine (hmayC.out _ hkw2).mono ?_; rintro e w5 ⟨rfl, hk5⟩
    rw [hb0'.out]
    go_wp2_with fail
    go_ret
    exact ⟨rfl, hkw2.trans hk5⟩
  · obtain ⟨hn, ha⟩ := hm.out hb1
    replace ha := Lib.hid ha
    replace hb1 := Lib.hid hb1
    have hso := Lib.hid fun w' (hk : Kp w w') => dowkerOf_any _ d w' (hD.out _ hk) hn ha.out
    clear hd1
    generalize dowC d = c at *
    obtain ⟨xs, ec⟩ := c
    dsimp only at *
    obtain ⟨x0, x1, x2, x3⟩ := (hx1.out.kp hk2).two
    have hkw2 := hk1.al.trans hk2
    go_wp2_with fail
    refine (hmayC.out _ hkw2).mono ?_; rintro e w5 ⟨rfl, hk5⟩
    rw [hb1.out]
    obtain ⟨y0, y1, y2, y3⟩ := ((hx1.out.kp hk2).kp hk5).two
    go_wp2_with fail
    refine (hso.out _ (hkw2.trans hk5)).mono ?_; rintro e w6 ⟨v6, rfl, hi6, hk6⟩
    go_wp2_with fail
    refine (same_ints _ _ xs _ (ints_kp hi2 (hk5.trans hk6)) hi6).mono ?_; rintro e w7 ⟨rfl, hk7⟩
    go_wp2_with fail
    go_ret
    exact ⟨rfl, ((hkw2.trans hk5).trans hk6).trans hk7⟩

set_option maxRecDepth 100000 in
theorem gaussDowker_lifted (os : Os) (started : os.Started) (H : Type) (enc : TypeId × Value → H) :
    ReturnsInHanded {} Try.checked os 6 .any (Rows.gaussDowkerSpec.pre6 enc Try.prog Try.f6 Rows.gaussDowkerRow.domain false) (Rows.gaussDowkerSpec.post enc Try.prog Try.f6 false true false false) := by
  refine law_lift (C := Try.checked) (tb := 4) (by kernel_rfl) started (by kernel_rfl) Try.func6
    (ChangeSpec.witness6 (enc := enc) (C := Try.checked) false ⟨#[], #[.agg #[.slice none 0 0, .int .i64 0]], []⟩ 8 (by kernel_rfl) (by kernel_rfl) (by kernel_rfl) (by kernel_rfl))
    rfl (by kernel_rfl) (by kernel_rfl) rfl Try.underlying4 ?_ ?_
  · intro ds hds
    match ds, hds with
    | [d0], _ => rfl
  · intro W base args ds p hval hA _ hlt hsz
    rw [Try.params6] at hA hval hsz
    obtain ⟨v0, vs0, d0, ds0, p0, q0, hargs, rfl, rfl, h0, r0⟩ := trodAll_cons hA
    obtain ⟨rfl, rfl, rfl⟩ := trodAll_nil r0
    obtain rfl : args = #[v0] := by cases args; simp_all
    obtain ⟨a0, i0⟩ := open_Dg (hval 0 27 v0 rfl rfl) h0 (fun x hx => hlt x (by simp [hx])) hsz (j := 0) rfl rfl
    exact lawDowker v0 a0 W i0

theorem gaussDowker_holds : Rows.GaussDowkerSaid :=
  OpenClaim.holds_of_wide 6 Try.f6 rfl rfl rfl rfl rfl rfl rfl ⟨rfl, rfl, rfl, rfl, rfl⟩ rfl rfl rfl rfl rfl (by kernel_rfl) Try.func6 (by kernel_rfl)
    (of_decide_eq_true (by kernel_rfl)) (by unfold Func.isWrapper; first | (rw [if_pos (by decide +kernel)]; kernel_rfl) | (rw [if_neg (by decide +kernel)]; exact ⟨rfl, rfl⟩))
    (fun os started H enc _ => gaussDowker_lifted os started H enc)
#print axioms gaussDowker_holds
end Go.Proofs.Ytlbpgnimpcflaaa
