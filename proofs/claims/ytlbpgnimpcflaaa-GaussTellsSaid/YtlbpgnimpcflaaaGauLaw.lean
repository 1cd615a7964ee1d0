/- The law GaussTells. -/
import Derived.Test.YtlbpgnimpcflaaaGau4
import Derived.Test.YtlbpgnimpcflaaaOpn
import Derived.Test.YtlbpgnimpcflaaaLaw
namespace Go.Proofs.Ytlbpgnimpcflaaa
open Go.ChangeShapes Go.WideShapes Go.ChangeAt Go.RowKit

set_option maxRecDepth 100000 in
set_option maxHeartbeats 4000000 in
theorem lawGauss (v : Value) (d : Dg) (w : World) (hd : IsDg w w.heap.size v d) : Calls Try.prog 5 #[v] w (YesPost w) := by
  obtain ⟨A, cap, rfl, hcap, hr⟩ := hd
  have hD := Lib.hid fun w' (hk : Kp w w') => (show IsDg w' w'.heap.size (.agg #[.slice A d.crs.length cap, .int .i64 d.loops]) d from ⟨A, cap, rfl, hcap, hr.kp hk⟩)
  have hm := Lib.hid (may_arcs (d := d))
  have hmayC := Lib.hid fun w' (hk : Kp w w') => diagramMay_any _ d w' (hD.out w' hk)
  have hstrC := Lib.hid fun v' w' (h : IsDg w' w'.heap.size v' d) => gstrands_any v' d w' h
  have hgauC := Lib.hid fun v' w' (h : IsDg w' w'.heap.size v' d) => ggauss_any v' d w' h
  clear hr
  generalize mayB d = b at *
  go_enter Try.func5, Try.ntmps5
  go_wp2_with fail
  refine (diagramOf_any _ d _ (hD.out _ ((Kp.refl _).alloc _))).mono ?_; rintro e w1 ⟨v1, rfl, hd1, hk1⟩
  have hx1 := Lib.hid ((Blk.new w 27 #[.slice A d.crs.length cap, .int .i64 d.loops]).kp hk1)
  go_wp2_with fail
  refine (hstrC.out _ _ hd1).mono ?_
  rintro e w2 (⟨hb0, rfl, hk2⟩ | ⟨hb1, v2, rfl, hi2, hk2⟩)
  · have hb0' := Lib.hid hb0
    clear hb0 hd1
    obtain ⟨x0, x1, x2, x3⟩ := (hx1.out.kp hk2).two
    have hkw2 := hk1.al.trans hk2
    go_wp2_with fail
    refine (diagramOf_any _ d _ (hD.out _ hkw2)).mono ?_; rintro e w3 ⟨v3, rfl, hd3, hk3⟩
    obtain ⟨y0, y1, y2, y3⟩ := ((hx1.out.kp hk2).kp hk3).two
    go_wp2_with fail
    refine (hgauC.out _ _ hd3).mono ?_
    rintro e w4 (⟨_, rfl, hk4⟩ | ⟨hb1, _⟩)
    · obtain ⟨z0, z1, z2, z3⟩ := (((hx1.out.kp hk2).kp hk3).kp hk4).two
      go_wp2_with fail
      refine (hmayC.out _ ((hkw2.trans hk3).trans hk4)).mono ?_; rintro e w5 ⟨rfl, hk5⟩
      rw [hb0'.out]
      go_wp2_with fail
      go_ret
      exact ⟨rfl, ((hkw2.trans hk3).trans hk4).trans hk5⟩
    · rw [hb0'.out] at hb1; cases hb1
  · obtain ⟨hn, ha⟩ := hm.out hb1
    have hn := Lib.hid hn
    have ha := Lib.hid ha
    have hb1' := Lib.hid hb1
    clear hb1 hd1
    have hso := Lib.hid fun w' (hk : Kp w w') => strandsOf_any _ d w' (hD.out _ hk) hn.out ha.out
    have hvo := Lib.hid fun w' (hk : Kp w w') => visitsOf_any _ d w' (hD.out _ hk) hn.out ha.out
    obtain ⟨_, hxl⟩ := strandsL_mem ha.out
    generalize strandsL d = xss at *
    obtain ⟨x0, x1, x2, x3⟩ := (hx1.out.kp hk2).two
    have hkw2 := hk1.al.trans hk2
    go_wp2_with fail
    refine (diagramOf_any _ d _ (hD.out _ hkw2)).mono ?_; rintro e w3 ⟨v3, rfl, hd3, hk3⟩
    obtain ⟨y0, y1, y2, y3⟩ := ((hx1.out.kp hk2).kp hk3).two
    go_wp2_with fail
    refine (hgauC.out _ _ hd3).mono ?_
    rintro e w4 (⟨hb0, _⟩ | ⟨_, u4, v4, rfl, hu4, hv4, hk4⟩)
    · rw [hb1'.out] at hb0; cases hb0
    · obtain ⟨z0, z1, z2, z3⟩ := (((hx1.out.kp hk2).kp hk3).kp hk4).two
      have hkw4 := (hkw2.trans hk3).trans hk4
      go_wp2_with fail
      refine (hmayC.out _ hkw4).mono ?_; rintro e w5 ⟨rfl, hk5⟩
      rw [hb1'.out]
      obtain ⟨t0, t1, t2, t3⟩ := ((((hx1.out.kp hk2).kp hk3).kp hk4).kp hk5).two
      go_wp2_with fail
      refine (hso.out _ (hkw4.trans hk5)).mono ?_; rintro e w6 ⟨v6, rfl, hi6, hk6⟩
      have hk26 : Kp w2 w6 := ((hk3.trans hk4).trans hk5).trans hk6
      obtain ⟨vs, l1, ⟨A1, c1, rfl, hc1, hrd⟩, hin⟩ := hi2
      obtain ⟨vs', l2, ⟨A2, c2, rfl, hc2, hrd'⟩, hin'⟩ := hi6
      rw [l1, l2]
      have l1' := Lib.hid l1
      have l2' := Lib.hid l2
      have hrd := Lib.hid (hrd.kp hk26)
      have hrd' := Lib.hid hrd'
      have hin := Lib.hid fun i hi => ints_kp (hin i hi) hk26
      have hin' := Lib.hid hin'
      rw [l1] at hc1
      rw [l2] at hc2
      clear l1 l2
      have hkw6 := (hkw4.trans hk5).trans hk6
      have hx6 := Lib.hid (((((hx1.out.kp hk2).kp hk3).kp hk4).kp hk5).kp hk6)
      have hu6 := Lib.hid (hu4.kp (hk5.trans hk6))
      have hv6 := Lib.hid (hv4.kp (hk5.trans hk6))
      go_wp2_with fail
      go_loopw [9] (fun i wr => ∃ n : Nat, n ≤ xss.length ∧ i = .int .i64 n ∧ Kp w6 wr) (fun i _ => xss.length - (intOf i).toNat)
      case atStart => exact ⟨0, Nat.zero_le _, rfl, Kp.refl _⟩
      case round =>
        obtain ⟨n, hn2, rfl, hkr⟩ := hrel
        by_cases hlt : n < xss.length
        · obtain ⟨b5, off5, rfl, hb5, hcell⟩ := vAt (hrd.out.kp hkr) (i := n) (by have := l1'.out; omega)
          obtain ⟨b6, off6, rfl, hb6, hcell'⟩ := vAt (hrd'.out.kp hkr) (i := n) (by have := l2'.out; omega)
          have hs := Lib.hid fun w' (hk : Kp wr w') => same_ints _ _ _ w' (ints_kp (hin.out n hlt) (hkr.trans hk)) (ints_kp (hin'.out n hlt) (hkr.trans hk))
          generalize Go.Proofs.Ytlbpgnimpcflaaa.ga vs n = p at *
          generalize Go.Proofs.Ytlbpgnimpcflaaa.ga vs' n = q at *
          go_wp2_with fail
          go_region_held3 (fun W => W.cell? ⟨b5, off5 + n, none⟩ = some p ∧ W.cell? ⟨b6, off6 + n, none⟩ = some q) (go_keep)
            ((go_at_call 22; refine (hs.out _ (by repeat (with_reducible (first | exact Kp.refl _ | refine Kp.alloc ?_ _ | refine Kp.drew ?_ | refine Kp.drewN ?_ _)))).mono ?_; rintro e w7 ⟨rfl, hk7⟩; have hq : Kp wr w7 := Kp.trans (by repeat (with_reducible (first | exact Kp.refl _ | refine Kp.alloc ?_ _ | refine Kp.drew ?_ | refine Kp.drewN ?_ _))) hk7; have q0 := hq.c hcell; have q1 := hq.c hcell'))
          all_goals
            go_wp2_with fail
            go_roundw
            case rel => exact ⟨n + 1, by omega, by go_num, hkr.trans hq⟩
            case measure => simp [intOf] <;> omega
        · obtain rfl : n = xss.length := by omega
          obtain ⟨s0, s1, s2, s3⟩ := (hx6.out.kp hkr).two
          go_wp2_with fail
          refine (hvo.out _ (hkw6.trans hkr)).mono ?_; rintro e w7 ⟨u7, v7, rfl, hu7, hv7, hk7⟩
          go_wp2_with fail
          refine (same_visits _ _ _ _ (hu6.out.kp (hkr.trans hk7)) hu7).mono ?_; rintro e w8 ⟨rfl, hk8⟩
          go_wp2_with fail
          refine (same_sides _ _ _ _ (hv6.out.kp ((hkr.trans hk7).trans hk8)) (hv7.kp hk8)).mono ?_; rintro e w9 ⟨rfl, hk9⟩
          go_wp2_with fail
          go_ret
          exact ⟨rfl, (((hkw6.trans hkr).trans hk7).trans hk8).trans hk9⟩

set_option maxRecDepth 100000 in
theorem gaussTells_lifted (os : Os) (started : os.Started) (H : Type) (enc : TypeId × Value → H) :
    ReturnsInHanded {} Try.checked os 5 .any (Rows.gaussTellsSpec.pre6 enc Try.prog Try.f5 Rows.gaussTellsRow.domain false) (Rows.gaussTellsSpec.post enc Try.prog Try.f5 false true false false) := by
  refine law_lift (C := Try.checked) (tb := 4) (by kernel_rfl) started (by kernel_rfl) Try.func5
    (ChangeSpec.witness6 (enc := enc) (C := Try.checked) false ⟨#[], #[.agg #[.slice none 0 0, .int .i64 0]], []⟩ 8 (by kernel_rfl) (by kernel_rfl) (by kernel_rfl) (by kernel_rfl))
    rfl (by kernel_rfl) (by kernel_rfl) rfl Try.underlying4 ?_ ?_
  · intro ds hds
    match ds, hds with
    | [d0], _ => rfl
  · intro W base args ds p hval hA _ hlt hsz
    rw [Try.params5] at hA hval hsz
    obtain ⟨v0, vs0, d0, ds0, p0, q0, hargs, rfl, rfl, h0, r0⟩ := trodAll_cons hA
    obtain ⟨rfl, rfl, rfl⟩ := trodAll_nil r0
    obtain rfl : args = #[v0] := by cases args; simp_all
    obtain ⟨a0, i0⟩ := open_Dg (hval 0 27 v0 rfl rfl) h0 (fun x hx => hlt x (by simp [hx])) hsz (j := 0) rfl rfl
    exact lawGauss v0 a0 W i0

theorem gaussTells_holds : Rows.GaussTellsSaid :=
  OpenClaim.holds_of_wide 5 Try.f5 rfl rfl rfl rfl rfl rfl rfl ⟨rfl, rfl, rfl, rfl, rfl⟩ rfl rfl rfl rfl rfl (by kernel_rfl) Try.func5 (by kernel_rfl)
    (of_decide_eq_true (by kernel_rfl)) (by unfold Func.isWrapper; first | (rw [if_pos (by decide +kernel)]; kernel_rfl) | (rw [if_neg (by decide +kernel)]; exact ⟨rfl, rfl⟩))
    (fun os started H enc _ => gaussTells_lifted os started H enc)
#print axioms gaussTells_holds
end Go.Proofs.Ytlbpgnimpcflaaa
