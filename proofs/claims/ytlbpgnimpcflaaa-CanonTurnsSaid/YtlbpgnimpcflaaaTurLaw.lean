/- The law CanonTurns. -/
import Derived.Test.YtlbpgnimpcflaaaRev2
import Derived.Test.YtlbpgnimpcflaaaOpn
import Derived.Test.YtlbpgnimpcflaaaLaw
namespace Go.Proofs.Ytlbpgnimpcflaaa
open Go.ChangeShapes Go.WideShapes Go.ChangeAt Go.RowKit

set_option maxRecDepth 100000 in
set_option maxHeartbeats 8000000 in
theorem lawTurns (v : Value) (d : Dg) (part : Int) (w : World) (hd : IsDg w w.heap.size v d) (_ : (Lit.int .i64 part).wf = true) : Calls Try.prog 7 #[v, .int .i64 part] w (YesPost w) := by
  obtain ⟨A, cap, rfl, hcap, hr⟩ := hd
  have hD := Lib.hid fun w' (hk : Kp w w') => (show IsDg w' w'.heap.size (.agg #[.slice A d.crs.length cap, .int .i64 d.loops]) d from ⟨A, cap, rfl, hcap, hr.kp hk⟩)
  have hm := Lib.hid (may_arcs (d := d))
  have hmayC := Lib.hid fun w' (hk : Kp w w') => diagramMay_any _ d w' (hD.out w' hk)
  have hmirC := Lib.hid fun v' w' (h : IsDg w' w'.heap.size v' d) => mirror_any v' d w' h
  have hrevC := Lib.hid fun v' w' (h : IsDg w' w'.heap.size v' d) => reverse_any v' d part w' h
  clear hr
  generalize mayB d = b at *
  go_enter Try.func7, Try.ntmps7
  go_wp2_with fail
  refine (diagramOf_any _ d _ (hD.out _ ((Kp.refl _).alloc _))).mono ?_; rintro e w1 ⟨v1, rfl, hd1, hk1⟩
  have hx1 := Lib.hid ((Blk.new w 27 #[.slice A d.crs.length cap, .int .i64 d.loops]).kp hk1)
  have hkw1 := hk1.al
  clear hk1
  go_wp2_with fail
  refine (hmirC.out _ _ hd1).mono ?_
  rintro e w2 (⟨hb0, rfl, hk2⟩ | ⟨hb1, v2, rfl, hi2, hk2⟩)
  · have hb0' := Lib.hid hb0
    clear hb0 hd1
    obtain ⟨x0, x1, x2, x3⟩ := (hx1.out.kp hk2).two
    have hz := (hx1.out.kp hk2).lt
    have hkw2 := hkw1.trans hk2
    go_wp2_with fail
    refine (diagramOf_any _ d _ (hD.out _ (hkw2.alloc _))).mono ?_; rintro e w3 ⟨v3, rfl, hd3, hk3⟩
    have hkw3 := hkw2.trans hk3.al
    have hm3 := (Blk.new w2 27 #[.slice none 0 0, .int .i64 0]).kp hk3
    have hx3 := (hx1.out.kp hk2).kp hk3.al
    go_wp2_with fail
    refine (hrevC.out _ _ hd3).mono ?_
    rintro e w4 (⟨_, rfl, hk4⟩ | ⟨hb1, _⟩)
    · obtain ⟨z0, z1, z2, z3⟩ := (hx3.kp hk4).two
      have hm4 := (hm3.kp hk4)
      have hz4 := (hx3.kp hk4).lt
      have hkw4 := hkw3.trans hk4
      go_wp2_with fail
      refine (hmayC.out _ (hkw4.alloc _)).mono ?_; rintro e w5 ⟨rfl, hk5⟩
      have hm5 := (hm4.alloc (.cells #[.slice none 0 0, .int .i64 0] 27)).kp hk5
      have hr5 := (Blk.new w4 27 #[.slice none 0 0, .int .i64 0]).kp hk5
      rw [hb0'.out]
      obtain ⟨a0, a1, a2, a3⟩ := hm5.two
      obtain ⟨c0, c1, c2, c3⟩ := hr5.two
      go_wp2_with fail
      go_ret
      exact ⟨rfl, (by repeat (with_reducible (first | exact hkw4.trans hk5.al | refine Kp.alloc ?_ _ | refine Kp.drew ?_ | refine Kp.drewN ?_ _ | refine Kp.setCell ?_ (by first | assumption | (simp; done) | (simp; omega)) _)))⟩
    · rw [hb0'.out] at hb1; cases hb1
  · obtain ⟨hn, ha⟩ := hm.out hb1
    replace ha := Lib.hid ha
    replace hb1 := Lib.hid hb1
    have hroC := Lib.hid fun w' (hk : Kp w w') => reverseOf_any _ d part w' (hD.out w' hk) hn ha.out
    have hmoC := Lib.hid fun w' (hk : Kp w w') => mirrorOf_any _ d w' (hD.out w' hk)
    obtain ⟨x0, x1, x2, x3⟩ := (hx1.out.kp hk2).two
    have hz := (hx1.out.kp hk2).lt
    have hkw2 := hkw1.trans hk2
    generalize mirD d = dm at *
    obtain ⟨Am, cm, rfl, hcm, hrm⟩ := hi2
    have hIm := Lib.hid fun w' (k : Kp w2 w') => (show IsDg w' w'.heap.size (.agg #[.slice Am dm.crs.length cm, .int .i64 dm.loops]) dm from ⟨Am, cm, rfl, hcm, hrm.kp k⟩)
    clear hrm hd1
    go_wp2_with fail
    refine (diagramOf_any _ d _ (hD.out _ (hkw2.alloc _))).mono ?_; rintro e w3 ⟨v3, rfl, hd3, hk3⟩
    have hkw3 := hkw2.trans hk3.al
    have hm3 := (Blk.new w2 27 #[.slice Am dm.crs.length cm, .int .i64 dm.loops]).kp hk3
    have hx3 := (hx1.out.kp hk2).kp hk3.al
    have hk23 := hk3.al
    go_wp2_with fail
    refine (hrevC.out _ _ hd3).mono ?_
    rintro e w4 (⟨hb0, _⟩ | ⟨_, v4, rfl, hi4, hk4⟩)
    · rw [hb1.out] at hb0; cases hb0
    · generalize revR d part = c at *
      obtain ⟨dr, er⟩ := c
      dsimp only at *
      obtain ⟨Ar, cr, rfl, hcr, hrr⟩ := hi4
      have hIr := Lib.hid fun w' (k : Kp w4 w') => (show IsDg w' w'.heap.size (.agg #[.slice Ar dr.crs.length cr, .int .i64 dr.loops]) dr from ⟨Ar, cr, rfl, hcr, hrr.kp k⟩)
      clear hrr hd3
      obtain ⟨z0, z1, z2, z3⟩ := (hx3.kp hk4).two
      have hm4 := (hm3.kp hk4)
      have hz4 := (hx3.kp hk4).lt
      have hkw4 := hkw3.trans hk4
      go_wp2_with fail
      refine (hmayC.out _ (hkw4.alloc _)).mono ?_; rintro e w5 ⟨rfl, hk5⟩
      rw [hb1.out]
      have hm5 := (hm4.alloc (.cells #[.slice Ar dr.crs.length cr, .int .i64 dr.loops] 27)).kp hk5
      have hr5 := (Blk.new w4 27 #[.slice Ar dr.crs.length cr, .int .i64 dr.loops]).kp hk5
      have hx5 := (hx3.kp hk4).kp hk5.al
      obtain ⟨t0, t1, t2, t3⟩ := hx5.two
      have hkw5 := hkw4.trans hk5.al
      go_wp2_with fail
      refine (hroC.out _ hkw5).mono ?_; rintro e w6 ⟨v6, rfl, ⟨As, cs, rfl, hcs, hrs⟩, hk6⟩
      dsimp only
      have hIs := Lib.hid fun w' (k : Kp w6 w') => (show IsDg w' w'.heap.size (.agg #[.slice As dr.crs.length cs, .int .i64 dr.loops]) dr from ⟨As, cs, rfl, hcs, hrs.kp k⟩)
      clear hrs
      go_upto_region 6 with (fail)
      have hm6 := (hm5.kp hk6).alloc (.cells #[.slice As dr.crs.length cs, .int .i64 dr.loops] 27)
      have hr6 := (hr5.kp hk6).alloc (.cells #[.slice As dr.crs.length cs, .int .i64 dr.loops] 27)
      have hx6 := (hx5.kp hk6).alloc (.cells #[.slice As dr.crs.length cs, .int .i64 dr.loops] 27)
      have hs6 := Blk.new w6 27 #[.slice As dr.crs.length cs, .int .i64 dr.loops]
      have k6 : Kp w6 (w6.alloc (.cells #[.slice As dr.crs.length cs, .int .i64 dr.loops] 27)) := (Kp.refl _).alloc _
      generalize w6.alloc (.cells #[.slice As dr.crs.length cs, .int .i64 dr.loops] 27) = W0 at *
      have F := Lib.hid fun w' (k : Kp W0 w') => And.intro (hm6.kp k).two (And.intro (hr6.kp k).two (And.intro (hx6.kp k).two (hs6.kp k).two))
      have hkwW : Kp w W0 := (hkw5.trans hk6).trans k6
      have k2W : Kp w2 W0 := (hk23.trans (hk4.trans (hk5.al.trans hk6))).trans k6
      have k4W : Kp w4 W0 := (hk5.al.trans hk6).trans k6
      have hmo := Lib.hid fun w' (k : Kp W0 w') => hmoC.out w' (hkwW.trans k)
      have hIm2 := Lib.hid fun w' (k : Kp W0 w') => hIm.out w' (k2W.trans k)
      have hIr2 := Lib.hid fun w' (k : Kp W0 w') => hIr.out w' (k4W.trans k)
      have hIs2 := Lib.hid fun w' (k : Kp W0 w') => hIs.out w' (k6.trans k)
      clear x0 x1 x2 x3 z0 z1 z2 z3 t0 t1 t2 t3 hm3 hx3 hm4 hm5 hr5 hx5 hm6 hr6 hx6 hs6
      have te : ((er == er) : Bool) = true := by simp
      refine wp_region_rob (by kernel_rfl) ?_
      have KA := (Kp.refl W0).drew
      generalize World.drew W0 = V0 at *
      refine AnyR.take (i := 0) (v := ?v0_1) rfl (by kernel_rfl) (by kernel_rfl) (by kernel_rfl) rfl (fun _ _ _ h => h) (by simp) (by rfl) ?y0_1 ?r0_1
      case y0_1 => (intro w9 k9; (obtain ⟨⟨x0, x1, -, -⟩, ⟨y0, y1, -, -⟩, ⟨z0, z1, -, -⟩, ⟨t0, t1, -, -⟩⟩ := F.out _ (KA.trans k9); go_wp2_with fail); refine ⟨rfl, rfl, ?_, by first | assumption | exact (by repeat (with_reducible (first | exact Kp.refl _ | refine Kp.alloc ?_ _ | refine Kp.drew ?_ | refine Kp.drewN ?_ _ | refine Kp.setCell ?_ (by first | assumption | (simp; done) | (simp; omega)) _)))⟩; simp only [Array.getD_eq_getD_getElem?, List.getElem?_toArray, List.getElem?_cons_succ, List.getElem?_cons_zero, Option.getD_some]; first | with_reducible rfl | rfl)
      intro V1 K_
      simp only [List.setIfInBounds_toArray, List.set_cons_succ, List.set_cons_zero]
      replace KA := KA.trans K_
      clear K_
      refine AnyR.take (i := 1) (v := ?v1_2) rfl (by kernel_rfl) (by kernel_rfl) (by kernel_rfl) rfl (fun _ _ _ h => h) (by simp) (by rfl) ?y1_2 ?r1_2
      case y1_2 => (intro w9 k9; (obtain ⟨⟨x0, x1, -, -⟩, ⟨y0, y1, -, -⟩, ⟨z0, z1, -, -⟩, ⟨t0, t1, -, -⟩⟩ := F.out _ (KA.trans k9); go_wp2_with fail); refine ⟨rfl, rfl, ?_, by first | assumption | exact (by repeat (with_reducible (first | exact Kp.refl _ | refine Kp.alloc ?_ _ | refine Kp.drew ?_ | refine Kp.drewN ?_ _ | refine Kp.setCell ?_ (by first | assumption | (simp; done) | (simp; omega)) _)))⟩; simp only [Array.getD_eq_getD_getElem?, List.getElem?_toArray, List.getElem?_cons_succ, List.getElem?_cons_zero, Option.getD_some]; first | with_reducible rfl | rfl)
      intro V2 K_
      simp only [List.setIfInBounds_toArray, List.set_cons_succ, List.set_cons_zero]
      replace KA := KA.trans K_
      clear K_
      refine AnyR.take (i := 2) (v := ?v2_3) rfl (by kernel_rfl) (by kernel_rfl) (by kernel_rfl) rfl (fun _ _ _ h => h) (by simp) (by rfl) ?y2_3 ?r2_3
      case y2_3 => (intro w9 k9; (obtain ⟨⟨x0, x1, -, -⟩, ⟨y0, y1, -, -⟩, ⟨z0, z1, -, -⟩, ⟨t0, t1, -, -⟩⟩ := F.out _ (KA.trans k9); go_wp2_with fail); refine ⟨rfl, rfl, ?_, by first | assumption | exact (by repeat (with_reducible (first | exact Kp.refl _ | refine Kp.alloc ?_ _ | refine Kp.drew ?_ | refine Kp.drewN ?_ _ | refine Kp.setCell ?_ (by first | assumption | (simp; done) | (simp; omega)) _)))⟩; simp only [Array.getD_eq_getD_getElem?, List.getElem?_toArray, List.getElem?_cons_succ, List.getElem?_cons_zero, Option.getD_some]; first | with_reducible rfl | rfl)
      intro V3 K_
      simp only [List.setIfInBounds_toArray, List.set_cons_succ, List.set_cons_zero]
      replace KA := KA.trans K_
      clear K_
      refine AnyR.take (i := 3) (v := ?v3_4) rfl (by kernel_rfl) (by kernel_rfl) (by kernel_rfl) rfl (fun _ _ _ h => h) (by simp) (by rfl) ?y3_4 ?r3_4
      case y3_4 => (intro w9 k9; (obtain ⟨⟨x0, x1, -, -⟩, ⟨y0, y1, -, -⟩, ⟨z0, z1, -, -⟩, ⟨t0, t1, -, -⟩⟩ := F.out _ (KA.trans k9); go_wp2_with fail); refine ⟨rfl, rfl, ?_, by first | assumption | exact (by repeat (with_reducible (first | exact Kp.refl _ | refine Kp.alloc ?_ _ | refine Kp.drew ?_ | refine Kp.drewN ?_ _ | refine Kp.setCell ?_ (by first | assumption | (simp; done) | (simp; omega)) _)))⟩; simp only [Array.getD_eq_getD_getElem?, List.getElem?_toArray, List.getElem?_cons_succ, List.getElem?_cons_zero, Option.getD_some]; first | with_reducible rfl | rfl)
      intro V4 K_
      simp only [List.setIfInBounds_toArray, List.set_cons_succ, List.set_cons_zero]
      replace KA := KA.trans K_
      clear K_
      refine AnyR.take (i := 4) (v := ?v4_5) rfl (by kernel_rfl) (by kernel_rfl) (by kernel_rfl) rfl (fun _ _ _ h => h) (by simp) (by rfl) ?y4_5 ?r4_5
      case y4_5 => (intro w9 k9; (obtain ⟨⟨x0, x1, -, -⟩, ⟨y0, y1, -, -⟩, ⟨z0, z1, -, -⟩, ⟨t0, t1, -, -⟩⟩ := F.out _ (KA.trans k9); go_wp2_with fail); refine ⟨rfl, rfl, ?_, by first | assumption | exact (by repeat (with_reducible (first | exact Kp.refl _ | refine Kp.alloc ?_ _ | refine Kp.drew ?_ | refine Kp.drewN ?_ _ | refine Kp.setCell ?_ (by first | assumption | (simp; done) | (simp; omega)) _)))⟩; simp only [Array.getD_eq_getD_getElem?, List.getElem?_toArray, List.getElem?_cons_succ, List.getElem?_cons_zero, Option.getD_some]; first | with_reducible rfl | rfl)
      intro V5 K_
      simp only [List.setIfInBounds_toArray, List.set_cons_succ, List.set_cons_zero]
      replace KA := KA.trans K_
      clear K_
      refine AnyR.take (i := 5) (v := ?v5_6) rfl (by kernel_rfl) (by kernel_rfl) (by kernel_rfl) rfl (fun _ _ _ h => h) (by simp) (by rfl) ?y5_6 ?r5_6
      case y5_6 => (intro w9 k9; (obtain ⟨⟨x0, x1, -, -⟩, ⟨y0, y1, -, -⟩, ⟨z0, z1, -, -⟩, ⟨t0, t1, -, -⟩⟩ := F.out _ (KA.trans k9); go_wp2_with fail); refine ⟨rfl, rfl, ?_, by first | assumption | exact (by repeat (with_reducible (first | exact Kp.refl _ | refine Kp.alloc ?_ _ | refine Kp.drew ?_ | refine Kp.drewN ?_ _ | refine Kp.setCell ?_ (by first | assumption | (simp; done) | (simp; omega)) _)))⟩; simp only [Array.getD_eq_getD_getElem?, List.getElem?_toArray, List.getElem?_cons_succ, List.getElem?_cons_zero, Option.getD_some]; first | with_reducible rfl | rfl)
      intro V6 K_
      simp only [List.setIfInBounds_toArray, List.set_cons_succ, List.set_cons_zero]
      replace KA := KA.trans K_
      clear K_
      refine AnyR.take (i := 6) (v := ?v6_7) rfl (by kernel_rfl) (by kernel_rfl) (by kernel_rfl) rfl (fun _ _ _ h => h) (by simp) (by rfl) ?y6_7 ?r6_7
      case y6_7 => (intro w9 k9; (obtain ⟨⟨x0, x1, -, -⟩, ⟨y0, y1, -, -⟩, ⟨z0, z1, -, -⟩, ⟨t0, t1, -, -⟩⟩ := F.out _ (KA.trans k9); go_wp2_with fail); refine ⟨rfl, rfl, ?_, by first | assumption | exact (by repeat (with_reducible (first | exact Kp.refl _ | refine Kp.alloc ?_ _ | refine Kp.drew ?_ | refine Kp.drewN ?_ _ | refine Kp.setCell ?_ (by first | assumption | (simp; done) | (simp; omega)) _)))⟩; simp only [Array.getD_eq_getD_getElem?, List.getElem?_toArray, List.getElem?_cons_succ, List.getElem?_cons_zero, Option.getD_some]; first | with_reducible rfl | rfl)
      intro V7 K_
      simp only [List.setIfInBounds_toArray, List.set_cons_succ, List.set_cons_zero]
      replace KA := KA.trans K_
      clear K_
      refine AnyR.take (i := 7) (v := ?v7_8) rfl (by kernel_rfl) (by kernel_rfl) (by kernel_rfl) rfl (fun _ _ _ h => h) (by simp) (by rfl) ?y7_8 ?r7_8
      case y7_8 => (intro w9 k9; (obtain ⟨⟨x0, x1, -, -⟩, ⟨y0, y1, -, -⟩, ⟨z0, z1, -, -⟩, ⟨t0, t1, -, -⟩⟩ := F.out _ (KA.trans k9); go_wp2_with fail); refine ⟨rfl, rfl, ?_, by first | assumption | exact (by repeat (with_reducible (first | exact Kp.refl _ | refine Kp.alloc ?_ _ | refine Kp.drew ?_ | refine Kp.drewN ?_ _ | refine Kp.setCell ?_ (by first | assumption | (simp; done) | (simp; omega)) _)))⟩; simp only [Array.getD_eq_getD_getElem?, List.getElem?_toArray, List.getElem?_cons_succ, List.getElem?_cons_zero, Option.getD_some]; first | with_reducible rfl | rfl)
      intro V8 K_
      simp only [List.setIfInBounds_toArray, List.set_cons_succ, List.set_cons_zero]
      replace KA := KA.trans K_
      clear K_
      refine AnyR.take (i := 8) (v := ?v8_9) rfl (by kernel_rfl) (by kernel_rfl) (by kernel_rfl) rfl (fun _ _ _ h => h) (by simp) (by rfl) ?y8_9 ?r8_9
      case y8_9 => (intro w9 k9; (obtain ⟨⟨x0, x1, -, -⟩, ⟨y0, y1, -, -⟩, ⟨z0, z1, -, -⟩, ⟨t0, t1, -, -⟩⟩ := F.out _ (KA.trans k9); go_wp2_with fail); refine ⟨rfl, rfl, ?_, by first | assumption | exact (by repeat (with_reducible (first | exact Kp.refl _ | refine Kp.alloc ?_ _ | refine Kp.drew ?_ | refine Kp.drewN ?_ _ | refine Kp.setCell ?_ (by first | assumption | (simp; done) | (simp; omega)) _)))⟩; simp only [Array.getD_eq_getD_getElem?, List.getElem?_toArray, List.getElem?_cons_succ, List.getElem?_cons_zero, Option.getD_some]; first | with_reducible rfl | rfl)
      intro V9 K_
      simp only [List.setIfInBounds_toArray, List.set_cons_succ, List.set_cons_zero]
      replace KA := KA.trans K_
      clear K_
      refine AnyR.take (i := 9) (v := ?v9_10) rfl (by kernel_rfl) (by kernel_rfl) (by kernel_rfl) rfl (fun _ _ _ h => h) (by simp) (by rfl) ?y9_10 ?r9_10
      case y9_10 => (intro w9 k9; (obtain ⟨⟨x0, x1, -, -⟩, ⟨y0, y1, -, -⟩, ⟨z0, z1, -, -⟩, ⟨t0, t1, -, -⟩⟩ := F.out _ (KA.trans k9); go_wp2_with fail); refine ⟨rfl, rfl, ?_, by first | assumption | exact (by repeat (with_reducible (first | exact Kp.refl _ | refine Kp.alloc ?_ _ | refine Kp.drew ?_ | refine Kp.drewN ?_ _ | refine Kp.setCell ?_ (by first | assumption | (simp; done) | (simp; omega)) _)))⟩; simp only [Array.getD_eq_getD_getElem?, List.getElem?_toArray, List.getElem?_cons_succ, List.getElem?_cons_zero, Option.getD_some]; first | with_reducible rfl | rfl)
      intro V10 K_
      simp only [List.setIfInBounds_toArray, List.set_cons_succ, List.set_cons_zero]
      replace KA := KA.trans K_
      clear K_
      refine AnyR.only (i := 10) rfl (by kernel_rfl) ?_
      intro K9 hK9
      (go_wp2_with fail; refine (hmo.out _ KA).mono ?_; rintro e w7 ⟨v7, rfl, hi7, hk7⟩; go_wp2_with fail)
      refine hK9 _ _ (by first | assumption | exact (by repeat (with_reducible (first | exact Kp.refl _ | refine Kp.alloc ?_ _ | refine Kp.drew ?_ | refine Kp.drewN ?_ _ | refine Kp.setCell ?_ (by first | assumption | (simp; done) | (simp; omega)) _)))) ?_
      clear hK9 K9
      intro V11 K_
      have hi7' := Lib.hid fun w' (k : Kp V11 w') => (hi7.kp K_).kp k
      replace KA := KA.trans (hk7.trans K_)
      clear hi7 hk7 K_
      refine AnyR.take (i := 11) (v := ?v11_11) rfl (by kernel_rfl) (by kernel_rfl) (by kernel_rfl) rfl (fun _ _ _ h => h) (by simp) (by rfl) ?y11_11 ?r11_11
      case y11_11 => (intro w9 k9; (go_wp2_with (refine (sameDg _ _ dm _ (hIm2.out _ (KA.trans k9)) (hi7'.out _ k9)).mono ?_; rintro e w8 ⟨rfl, k8⟩)); refine ⟨rfl, rfl, ?_, by first | assumption | exact (by repeat (with_reducible (first | exact Kp.refl _ | refine Kp.alloc ?_ _ | refine Kp.drew ?_ | refine Kp.drewN ?_ _ | refine Kp.setCell ?_ (by first | assumption | (simp; done) | (simp; omega)) _)))⟩; simp only [Array.getD_eq_getD_getElem?, List.getElem?_toArray, List.getElem?_cons_succ, List.getElem?_cons_zero, Option.getD_some]; first | with_reducible rfl | rfl)
      intro V12 K_
      simp only [List.setIfInBounds_toArray, List.set_cons_succ, List.set_cons_zero]
      replace KA := KA.trans K_
      clear K_
      refine AnyR.take (i := 12) (v := ?v12_12) rfl (by kernel_rfl) (by kernel_rfl) (by kernel_rfl) rfl (fun _ _ _ h => h) (by simp) (by rfl) ?y12_12 ?r12_12
      case y12_12 => (intro w9 k9; (obtain ⟨⟨x0, x1, -, -⟩, ⟨y0, y1, -, -⟩, ⟨z0, z1, -, -⟩, ⟨t0, t1, -, -⟩⟩ := F.out _ (KA.trans k9); go_wp2_with fail); refine ⟨rfl, rfl, ?_, by first | assumption | exact (by repeat (with_reducible (first | exact Kp.refl _ | refine Kp.alloc ?_ _ | refine Kp.drew ?_ | refine Kp.drewN ?_ _ | refine Kp.setCell ?_ (by first | assumption | (simp; done) | (simp; omega)) _)))⟩; simp only [Array.getD_eq_getD_getElem?, List.getElem?_toArray, List.getElem?_cons_succ, List.getElem?_cons_zero, Option.getD_some]; first | with_reducible rfl | rfl)
      intro V13 K_
      simp only [List.setIfInBounds_toArray, List.set_cons_succ, List.set_cons_zero]
      replace KA := KA.trans K_
      clear K_
      refine AnyR.take (i := 13) (v := ?v13_13) rfl (by kernel_rfl) (by kernel_rfl) (by kernel_rfl) rfl (fun _ _ _ h => h) (by simp) (by rfl) ?y13_13 ?r13_13
      case y13_13 => (intro w9 k9; (obtain ⟨⟨x0, x1, -, -⟩, ⟨y0, y1, -, -⟩, ⟨z0, z1, -, -⟩, ⟨t0, t1, -, -⟩⟩ := F.out _ (KA.trans k9); go_wp2_with fail); refine ⟨rfl, rfl, ?_, by first | assumption | exact (by repeat (with_reducible (first | exact Kp.refl _ | refine Kp.alloc ?_ _ | refine Kp.drew ?_ | refine Kp.drewN ?_ _ | refine Kp.setCell ?_ (by first | assumption | (simp; done) | (simp; omega)) _)))⟩; simp only [Array.getD_eq_getD_getElem?, List.getElem?_toArray, List.getElem?_cons_succ, List.getElem?_cons_zero, Option.getD_some]; first | with_reducible rfl | rfl)
      intro V14 K_
      simp only [List.setIfInBounds_toArray, List.set_cons_succ, List.set_cons_zero]
      replace KA := KA.trans K_
      clear K_
      refine AnyR.take (i := 14) (v := ?v14_14) rfl (by kernel_rfl) (by kernel_rfl) (by kernel_rfl) rfl (fun _ _ _ h => h) (by simp) (by rfl) ?y14_14 ?r14_14
      case y14_14 => (intro w9 k9; (obtain ⟨⟨x0, x1, -, -⟩, ⟨y0, y1, -, -⟩, ⟨z0, z1, -, -⟩, ⟨t0, t1, -, -⟩⟩ := F.out _ (KA.trans k9); go_wp2_with fail); refine ⟨rfl, rfl, ?_, by first | assumption | exact (by repeat (with_reducible (first | exact Kp.refl _ | refine Kp.alloc ?_ _ | refine Kp.drew ?_ | refine Kp.drewN ?_ _ | refine Kp.setCell ?_ (by first | assumption | (simp; done) | (simp; omega)) _)))⟩; simp only [Array.getD_eq_getD_getElem?, List.getElem?_toArray, List.getElem?_cons_succ, List.getElem?_cons_zero, Option.getD_some]; first | with_reducible rfl | rfl)
      intro V15 K_
      simp only [List.setIfInBounds_toArray, List.set_cons_succ, List.set_cons_zero]
      replace KA := KA.trans K_
      clear K_
      refine AnyR.take (i := 15) (v := ?v15_15) rfl (by kernel_rfl) (by kernel_rfl) (by kernel_rfl) rfl (fun _ _ _ h => h) (by simp) (by rfl) ?y15_15 ?r15_15
      case y15_15 => (intro w9 k9; (obtain ⟨⟨x0, x1, -, -⟩, ⟨y0, y1, -, -⟩, ⟨z0, z1, -, -⟩, ⟨t0, t1, -, -⟩⟩ := F.out _ (KA.trans k9); go_wp2_with fail); refine ⟨rfl, rfl, ?_, by first | assumption | exact (by repeat (with_reducible (first | exact Kp.refl _ | refine Kp.alloc ?_ _ | refine Kp.drew ?_ | refine Kp.drewN ?_ _ | refine Kp.setCell ?_ (by first | assumption | (simp; done) | (simp; omega)) _)))⟩; simp only [Array.getD_eq_getD_getElem?, List.getElem?_toArray, List.getElem?_cons_succ, List.getElem?_cons_zero, Option.getD_some]; first | with_reducible rfl | rfl)
      intro V16 K_
      simp only [List.setIfInBounds_toArray, List.set_cons_succ, List.set_cons_zero]
      replace KA := KA.trans K_
      clear K_
      refine AnyR.take (i := 16) (v := ?v16_16) rfl (by kernel_rfl) (by kernel_rfl) (by kernel_rfl) rfl (fun _ _ _ h => h) (by simp) (by rfl) ?y16_16 ?r16_16
      case y16_16 => (intro w9 k9; (go_wp2_with (refine (sameDg _ _ dr _ (hIr2.out _ (KA.trans k9)) (hIs2.out _ (KA.trans k9))).mono ?_; rintro e w8 ⟨rfl, k8⟩)); refine ⟨rfl, rfl, ?_, by first | assumption | exact (by repeat (with_reducible (first | exact Kp.refl _ | refine Kp.alloc ?_ _ | refine Kp.drew ?_ | refine Kp.drewN ?_ _ | refine Kp.setCell ?_ (by first | assumption | (simp; done) | (simp; omega)) _)))⟩; simp only [Array.getD_eq_getD_getElem?, List.getElem?_toArray, List.getElem?_cons_succ, List.getElem?_cons_zero, Option.getD_some]; first | with_reducible rfl | rfl)
      intro V17 K_
      simp only [List.setIfInBounds_toArray, List.set_cons_succ, List.set_cons_zero]
      replace KA := KA.trans K_
      clear K_
      refine AnyR.take (i := 17) (v := ?v17_17) rfl (by kernel_rfl) (by kernel_rfl) (by kernel_rfl) rfl (fun _ _ _ h => h) (by simp) (by rfl) ?y17_17 ?r17_17
      case y17_17 => (intro w9 k9; go_wp2_with fail; refine ⟨rfl, rfl, ?_, by first | assumption | exact (by repeat (with_reducible (first | exact Kp.refl _ | refine Kp.alloc ?_ _ | refine Kp.drew ?_ | refine Kp.drewN ?_ _ | refine Kp.setCell ?_ (by first | assumption | (simp; done) | (simp; omega)) _)))⟩; simp only [Array.getD_eq_getD_getElem?, List.getElem?_toArray, List.getElem?_cons_succ, List.getElem?_cons_zero, Option.getD_some]; first | with_reducible rfl | rfl)
      intro V18 K_
      simp only [List.setIfInBounds_toArray, List.set_cons_succ, List.set_cons_zero]
      replace KA := KA.trans K_
      clear K_
      refine AnyR.take (i := 18) (v := ?v18_18) rfl (by kernel_rfl) (by kernel_rfl) (by kernel_rfl) rfl (fun _ _ _ h => h) (by simp) (by rfl) ?y18_18 ?r18_18
      case y18_18 => (intro w9 k9; go_wp2_with fail; refine ⟨rfl, rfl, ?_, by first | assumption | exact (by repeat (with_reducible (first | exact Kp.refl _ | refine Kp.alloc ?_ _ | refine Kp.drew ?_ | refine Kp.drewN ?_ _ | refine Kp.setCell ?_ (by first | assumption | (simp; done) | (simp; omega)) _)))⟩; simp only [Array.getD_eq_getD_getElem?, List.getElem?_toArray, List.getElem?_cons_succ, List.getElem?_cons_zero, Option.getD_some]; first | with_reducible rfl | rfl)
      intro V19 K_
      simp only [List.setIfInBounds_toArray, List.set_cons_succ, List.set_cons_zero]
      replace KA := KA.trans K_
      clear K_
      refine AnyR.done (by kernel_rfl) ?_
      go_wp2_with fail
      go_ret
      exact ⟨rfl, hkwW.trans KA⟩

set_option maxRecDepth 100000 in
theorem canonTurns_lifted (os : Os) (started : os.Started) (H : Type) (enc : TypeId × Value → H) :
    ReturnsInHanded {} Try.checked os 7 .any (Rows.canonTurnsSpec.pre6 enc Try.prog Try.f7 Rows.canonTurnsRow.domain false) (Rows.canonTurnsSpec.post enc Try.prog Try.f7 false true false false) := by
  refine law_lift (C := Try.checked) (tb := 4) (by kernel_rfl) started (by kernel_rfl) Try.func7
    (ChangeSpec.witness6 (enc := enc) (C := Try.checked) false ⟨#[], #[.agg #[.slice none 0 0, .int .i64 0], .int .i64 0], []⟩ 8 (by kernel_rfl) (by kernel_rfl) (by kernel_rfl) (by kernel_rfl))
    rfl (by kernel_rfl) (by kernel_rfl) rfl Try.underlying4 ?_ ?_
  · intro ds hds
    match ds, hds with
    | [d0, d1], _ => rfl
  · intro W base args ds p hval hA _ hlt hsz
    rw [Try.params7] at hA hval hsz
    obtain ⟨v0, vs0, d0, ds0, p0, q0, hargs, rfl, rfl, h0, r0⟩ := trodAll_cons hA
    obtain ⟨v1, vs1, d1, ds1, p1, q1, rfl, rfl, rfl, h1, r1⟩ := trodAll_cons r0
    obtain ⟨rfl, rfl, rfl⟩ := trodAll_nil r1
    obtain rfl : args = #[v0, v1] := by cases args; simp_all
    obtain ⟨a0, i0⟩ := open_Dg (hval 0 27 v0 rfl rfl) h0 (fun x hx => hlt x (by simp [hx])) hsz (j := 0) rfl rfl
    obtain ⟨a1, rfl, rfl, rfl, w1⟩ := open_int Try.underlying3 (hval 1 3 v1 rfl rfl) h1
    exact lawTurns v0 a0 a1 W i0 w1

theorem canonTurns_holds : Rows.CanonTurnsSaid :=
  OpenClaim.holds_of_wide 7 Try.f7 rfl rfl rfl rfl rfl rfl rfl ⟨rfl, rfl, rfl, rfl, rfl⟩ rfl rfl rfl rfl rfl (by kernel_rfl) Try.func7 (by kernel_rfl)
    (of_decide_eq_true (by kernel_rfl)) (by unfold Func.isWrapper; first | (rw [if_pos (by decide +kernel)]; kernel_rfl) | (rw [if_neg (by decide +kernel)]; exact ⟨rfl, rfl⟩))
    (fun os started H enc _ => canonTurns_lifted os started H enc)
#print axioms canonTurns_holds
end Go.Proofs.Ytlbpgnimpcflaaa
