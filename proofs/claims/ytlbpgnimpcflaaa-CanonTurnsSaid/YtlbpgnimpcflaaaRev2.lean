/- One part runs the other way round: the reference's walk. -/
import Derived.Test.YtlbpgnimpcflaaaRev1
namespace Go.Proofs.Ytlbpgnimpcflaaa
open Go.ChangeShapes Go.WideShapes Go.ChangeAt Go.RowKit

set_option maxHeartbeats 1000000 in
theorem within_any (v : Value) (xs : List Int) (x : Int) (w : World) (hv : Ints w w.heap.size v xs) : Calls Try.prog 65 #[v, .int .i64 x] w (BoPost (decide (x ∈ xs)) w) := by
  obtain ⟨A, c, rfl, hc, ha⟩ := hv
  have hr := ha.room
  go_enter Try.func65, Try.ntmps65
  go_wp2_with fail
  go_loopw [5] (fun i wr => ∃ k : Nat, k ≤ xs.length ∧ i = .int .i64 k ∧ Kp w wr ∧ Hid (∀ i, i < k → gi xs i ≠ x)) (fun i _ => xs.length - (intOf i).toNat)
  case atStart => exact ⟨0, Nat.zero_le _, rfl, Kp.refl _, fun i hi => by omega⟩
  case round =>
    obtain ⟨k, hk, rfl, hb, hno⟩ := hrel
    by_cases hlt : k < xs.length
    · obtain ⟨b, off, rfl, hb1, hc1⟩ := (ha.below hb.below).at_ hlt
      have hmem : Hid (gi xs k = x → decide (x ∈ xs) = true) := fun h => by rw [decide_eq_true_iff, ← h, gi_eq hlt]; exact List.getElem_mem _
      have hnx : Hid (gi xs k ≠ x → ∀ i, i < k + 1 → gi xs i ≠ x) := fun h i hi => by
        rcases Nat.lt_or_ge i k with h1 | h1
        · exact hno.out i h1
        · obtain rfl : i = k := by omega
          exact h
      clear ha
      generalize gi xs k = y at *
      by_cases h : y = x
      · have t1 : ((y == x) : Bool) = true := by rw [beq_iff_eq]; exact h
        have hr := Lib.hid (hmem.out h)
        clear h hmem hnx
        go_wp2_with fail
        go_ret
        exact ⟨by rw [hr.out]; rfl, hb⟩
      · have t1 : ((y == x) : Bool) = false := by rw [beq_eq_false_iff_ne]; exact h
        have hr := Lib.hid (hnx.out h)
        clear h hmem hnx
        go_wp2_with fail
        go_roundw
        case rel => exact ⟨k + 1, by omega, by go_num, hb, hr.out⟩
        case measure => simp [intOf]; omega
    · have hno' : Hid (decide (x ∈ xs) = false) := by
        rw [Hid, decide_eq_false_iff_not]
        intro h
        obtain ⟨i, hi, e⟩ := List.getElem_of_mem h
        exact hno.out i (by omega) (by rw [gi_eq hi]; exact e)
      go_wp2_with fail
      go_ret
      exact ⟨by rw [hno'.out]; rfl, hb⟩

def RofPost (c : Dg × Int) (w : World) (e : Ending) (w' : World) : Prop := ∃ v, e = .returned (.tuple #[v, .int .i64 c.2]) ∧ IsDg w' w'.heap.size v c.1 ∧ Kp w w'

set_option maxRecDepth 100000 in
set_option maxHeartbeats 8000000 in
theorem reverseOf_any (v : Value) (d : Dg) (part : Int) (w : World) (hd : IsDg w w.heap.size v d) (hn : d.crs.length ≤ 16) (ha : arcsB d = true) : Calls Try.prog 30 #[v, .int .i64 part] w (RofPost (revR d part) w) := by
  obtain ⟨A, cap, rfl, hcap, hr⟩ := hd
  have hst := Lib.hid fun w' (hk : Kp w w') => strandsOf_any (.agg #[.slice A d.crs.length cap, .int .i64 d.loops]) d w' ⟨A, cap, rfl, hcap, hr.kp hk⟩ hn ha
  have hno := Lib.hid (show ¬ (0 ≤ part ∧ part < ((strandsL d).length : Int)) → revR d part = (⟨[], 0⟩, 3) from fun h => if_neg h)
  have hyes := Lib.hid (show (0 ≤ part ∧ part < ((strandsL d).length : Int)) → revR d part = (revD d part.toNat, 0) from fun h => if_pos h)
  have hsl := (strandsL_mem ha).2
  have hrm : d.crs.length * 40 ≤ 140737488355328 := by omega
  have b1 := (Blk.new w 27 #[.slice A d.crs.length cap, .int .i64 d.loops]).alloc (.cells #[.slice none 0 0, .int .i64 0] 27)
  have b2 := Blk.new' (w.alloc (.cells #[.slice A d.crs.length cap, .int .i64 d.loops] 27)) 27 #[.slice none 0 0, .int .i64 0] (n := w.heap.size + 1) (by simp)
  replace hr := Lib.hid hr
  replace b1 := Lib.hid b1
  replace b2 := Lib.hid b2
  clear ha
  go_enter Try.func30, Try.ntmps30
  go_wp2_with fail
  refine (hst.out _ (((Kp.refl _).alloc _).alloc _)).mono ?_; rintro e w1 ⟨v1, rfl, ⟨vs, l1, ⟨A1, c1, rfl, hc1, hrd⟩, hin⟩, hk⟩
  have hkw : Kp w w1 := hk.al.al
  have b1w := b1.out.kp hk
  have b2w := b2.out.kp hk
  clear b1 b2
  rw [l1]
  rw [l1] at hc1
  by_cases hp0 : part < 0
  · have hres := Lib.hid (hno.out (by omega))
    obtain ⟨x0, x1, x2, x3⟩ := b2w.two
    clear hno hyes l1 hin hrd
    go_wp2_with fail
    refine bodyPost_ret (v := .tuple #[.agg #[.slice none 0 0, .int .i64 0], .int .i64 3]) (by simp [results, Try.results30, go_sem, *]) rfl ?_
    exact ⟨_, by rw [hres.out], by rw [hres.out]; exact noDg _ _, (by repeat (with_reducible (first | exact hkw | refine Kp.alloc ?_ _ | refine Kp.drew ?_ | refine Kp.drewN ?_ _ | refine Kp.setCell ?_ (by first | assumption | (simp; done) | (simp; omega)) _)))⟩
  · by_cases hp1 : (strandsL d).length ≤ part
    · have hres := Lib.hid (hno.out (by omega))
      obtain ⟨x0, x1, x2, x3⟩ := b2w.two
      clear hno hyes l1 hin hrd
      go_wp2_with fail
      refine bodyPost_ret (v := .tuple #[.agg #[.slice none 0 0, .int .i64 0], .int .i64 3]) (by simp [results, Try.results30, go_sem, *]) rfl ?_
      exact ⟨_, by rw [hres.out], by rw [hres.out]; exact noDg _ _, (by repeat (with_reducible (first | exact hkw | refine Kp.alloc ?_ _ | refine Kp.drew ?_ | refine Kp.drewN ?_ _ | refine Kp.setCell ?_ (by first | assumption | (simp; done) | (simp; omega)) _)))⟩
    · have hres := Lib.hid (hyes.out (by omega))
      obtain ⟨pt, rfl⟩ := Int.eq_ofNat_of_zero_le (show 0 ≤ part by omega)
      have hptl : pt < (strandsL d).length := by omega
      have tp : decide ((pt : Int) < 0) = false := by simp
      have tq : decide ((strandsL d).length ≤ pt) = false := by simp; omega
      obtain ⟨b5, off5, rfl, hb5, hcell⟩ := vAt hrd (i := pt) (by omega)
      obtain ⟨A3, c3, hv3, hc3, hr3⟩ := hin pt hptl
      rw [hv3] at hcell
      have hwi := Lib.hid fun (x : Int) w' (k : Kp w1 w') => within_any (.slice A3 (ga (strandsL d) pt).length c3) (ga (strandsL d) pt) x w' ⟨A3, c3, rfl, hc3, (hr3.below k.below).mono k.size⟩
      have hdef : Hid (∀ a, inB d pt a = decide (a ∈ ga (strandsL d) pt)) := fun _ => rfl
      have hR : Hid (revD d pt = ⟨d.crs.map fun x => revC (inB d pt x.a) (inB d pt x.b) x, d.loops⟩) := rfl
      generalize ga (strandsL d) pt = r at *
      have hC := Lib.hid fun w' (k : Kp w1 w') => k.c hcell
      clear hno hyes l1 hin hrd hp0 hv3 hr3 hcell
      obtain ⟨x0, x1, x2, x3⟩ := b1w.two
      have hz := b2w.lt
      go_wp2_with fail
      have b3 := Blk.new w1 27 #[.slice none 0 0, .int .i64 d.loops]
      go_loopw [8] (fun i wr => ∃ (n : Nat) (s : Value) (ys : List Cr), n ≤ d.crs.length ∧ i = .int .i64 n ∧ ys.length = n ∧ Hid (ys = (d.crs.map fun x => revC (inB d pt x.a) (inB d pt x.b) x).take n) ∧ Kp w1 wr ∧
        Blk wr w1.heap.size 27 #[s, .int .i64 d.loops] ∧ Ow codCr 73 wr (w1.heap.size + 1) s ys) (fun i _ => d.crs.length - (intOf i).toNat)
      case atStart => exact ⟨0, _, [], Nat.zero_le _, rfl, rfl, rfl, (Kp.refl _).alloc _, b3, Ow.nil_⟩
      case round =>
        clear b3 x0 x1 x2 x3
        obtain ⟨n, s, ys, hn2, rfl, hyl, hys, hk1, b3, ho⟩ := hrel
        obtain ⟨x0, x1, x2, x3⟩ := (b1w.kp hk1).two
        obtain ⟨z0, z1, z2, z3⟩ := b3.two
        have hz3 := b3.lt
        obtain ⟨A6, c6, rfl, hc6⟩ := ho.sl
        by_cases hlt : n < d.crs.length
        · obtain ⟨b, off, rfl, hb, c0, c1', c2, c3', c4⟩ := crAt (hr.out.kp (hkw.trans hk1)) hlt
          have hmt := Lib.hid (map_take_cr (fun x => revC (inB d pt x.a) (inB d pt x.b) x) d.crs n hlt)
          have hia := hdef.out (Go.Proofs.Ytlbpgnimpcflaaa.ga d.crs n).a
          have hib := hdef.out (Go.Proofs.Ytlbpgnimpcflaaa.ga d.crs n).b
          generalize Go.Proofs.Ytlbpgnimpcflaaa.ga d.crs n = x at *
          generalize inB d pt x.a = bl at *
          generalize inB d pt x.b = ab at *
          obtain ⟨xa, xb, xc, xd, xp⟩ := x
          dsimp only at *
          have hwa := Lib.hid fun w' (k : Kp w1 w') => hwi.out xa w' k
          have hwb := Lib.hid fun w' (k : Kp w1 w') => hwi.out xb w' k
          rw [← hia] at hwa
          rw [← hib] at hwb
          clear hia hib
          obtain ⟨l0, l1, l2, l3, l4⟩ := lts hb
          replace hyl := Lib.hid hyl
          obtain ⟨wo, rfl⟩ : ∃ wo : World, wo = wr := ⟨_, rfl⟩
          go_upto_region 9 with (fail)
          have B0 := Blk.new wo 73 #[.int .i64 xa, .int .i64 xb, .int .i64 xc, .int .i64 xd, .bool xp]
          have K0 : Kp wo (wo.alloc (.cells #[.int .i64 xa, .int .i64 xb, .int .i64 xc, .int .i64 xd, .bool xp] 73)) := (Kp.refl _).alloc _
          clear c0 c1' c2 c3' c4 x0 x1 x2 x3 z0 z1 z2 z3
          generalize wo.alloc (.cells #[.int .i64 xa, .int .i64 xb, .int .i64 xc, .int .i64 xd, .bool xp] 73) = W0 at *
          obtain ⟨y0, y1, y2, y3, y4⟩ := B0.cr
          have F := Lib.hid fun w' (k : Kp W0 w') => And.intro (k.c y0) (And.intro (k.c y1) (hC.out w' (hk1.trans (K0.trans k))))
          have hwa := Lib.hid fun w' (k : Kp W0 w') => hwa.out w' (hk1.trans (K0.trans k))
          have hwb := Lib.hid fun w' (k : Kp W0 w') => hwb.out w' (hk1.trans (K0.trans k))
          clear y0 y1 y2 y3 y4
          refine wp_region_rob (by kernel_rfl) ?_
          have KA := (Kp.refl W0).drew
          generalize World.drew W0 = V0 at *
          refine AnyR.take (i := 0) (v := ?v0_1) rfl (by kernel_rfl) (by kernel_rfl) (by kernel_rfl) rfl (fun _ _ _ h => h) (by simp) (by rfl) ?y0_1 ?r0_1
          case y0_1 => (intro w9 k9; (obtain ⟨y0, y1, y2⟩ := F.out _ (KA.trans k9); go_wp2_with fail); refine ⟨rfl, rfl, ?_, by first | assumption | exact (by repeat (with_reducible (first | exact Kp.refl _ | refine Kp.alloc ?_ _ | refine Kp.drew ?_ | refine Kp.drewN ?_ _ | refine Kp.setCell ?_ (by first | assumption | (simp; done) | (simp; omega)) _)))⟩; simp only [Array.getD_eq_getD_getElem?, List.getElem?_toArray, List.getElem?_cons_succ, List.getElem?_cons_zero, Option.getD_some]; first | with_reducible rfl | rfl)
          intro V1 K_
          simp only [List.setIfInBounds_toArray, List.set_cons_succ, List.set_cons_zero]
          replace KA := KA.trans K_
          clear K_
          refine AnyR.take (i := 1) (v := ?v1_2) rfl (by kernel_rfl) (by kernel_rfl) (by kernel_rfl) rfl (fun _ _ _ h => h) (by simp) (by rfl) ?y1_2 ?r1_2
          case y1_2 => (intro w9 k9; (obtain ⟨y0, y1, y2⟩ := F.out _ (KA.trans k9); go_wp2_with fail); refine ⟨rfl, rfl, ?_, by first | assumption | exact (by repeat (with_reducible (first | exact Kp.refl _ | refine Kp.alloc ?_ _ | refine Kp.drew ?_ | refine Kp.drewN ?_ _ | refine Kp.setCell ?_ (by first | assumption | (simp; done) | (simp; omega)) _)))⟩; simp only [Array.getD_eq_getD_getElem?, List.getElem?_toArray, List.getElem?_cons_succ, List.getElem?_cons_zero, Option.getD_some]; first | with_reducible rfl | rfl)
          intro V2 K_
          simp only [List.setIfInBounds_toArray, List.set_cons_succ, List.set_cons_zero]
          replace KA := KA.trans K_
          clear K_
          refine AnyR.take (i := 2) (v := ?v2_3) rfl (by kernel_rfl) (by kernel_rfl) (by kernel_rfl) rfl (fun _ _ _ h => h) (by simp) (by rfl) ?y2_3 ?r2_3
          case y2_3 => (intro w9 k9; (obtain ⟨y0, y1, y2⟩ := F.out _ (KA.trans k9); go_wp2_with fail); refine ⟨rfl, rfl, ?_, by first | assumption | exact (by repeat (with_reducible (first | exact Kp.refl _ | refine Kp.alloc ?_ _ | refine Kp.drew ?_ | refine Kp.drewN ?_ _ | refine Kp.setCell ?_ (by first | assumption | (simp; done) | (simp; omega)) _)))⟩; simp only [Array.getD_eq_getD_getElem?, List.getElem?_toArray, List.getElem?_cons_succ, List.getElem?_cons_zero, Option.getD_some]; first | with_reducible rfl | rfl)
          intro V3 K_
          simp only [List.setIfInBounds_toArray, List.set_cons_succ, List.set_cons_zero]
          replace KA := KA.trans K_
          clear K_
          refine AnyR.take (i := 3) (v := ?v3_4) rfl (by kernel_rfl) (by kernel_rfl) (by kernel_rfl) rfl (fun _ _ _ h => h) (by simp) (by rfl) ?y3_4 ?r3_4
          case y3_4 => (intro w9 k9; (obtain ⟨y0, y1, y2⟩ := F.out _ (KA.trans k9); go_wp2_with fail); refine ⟨rfl, rfl, ?_, by first | assumption | exact (by repeat (with_reducible (first | exact Kp.refl _ | refine Kp.alloc ?_ _ | refine Kp.drew ?_ | refine Kp.drewN ?_ _ | refine Kp.setCell ?_ (by first | assumption | (simp; done) | (simp; omega)) _)))⟩; simp only [Array.getD_eq_getD_getElem?, List.getElem?_toArray, List.getElem?_cons_succ, List.getElem?_cons_zero, Option.getD_some]; first | with_reducible rfl | rfl)
          intro V4 K_
          simp only [List.setIfInBounds_toArray, List.set_cons_succ, List.set_cons_zero]
          replace KA := KA.trans K_
          clear K_
          refine AnyR.take (i := 4) (v := ?v4_5) rfl (by kernel_rfl) (by kernel_rfl) (by kernel_rfl) rfl (fun _ _ _ h => h) (by simp) (by rfl) ?y4_5 ?r4_5
          case y4_5 => (intro w9 k9; (obtain ⟨y0, y1, y2⟩ := F.out _ (KA.trans k9); go_wp2_with fail); refine ⟨rfl, rfl, ?_, by first | assumption | exact (by repeat (with_reducible (first | exact Kp.refl _ | refine Kp.alloc ?_ _ | refine Kp.drew ?_ | refine Kp.drewN ?_ _ | refine Kp.setCell ?_ (by first | assumption | (simp; done) | (simp; omega)) _)))⟩; simp only [Array.getD_eq_getD_getElem?, List.getElem?_toArray, List.getElem?_cons_succ, List.getElem?_cons_zero, Option.getD_some]; first | with_reducible rfl | rfl)
          intro V5 K_
          simp only [List.setIfInBounds_toArray, List.set_cons_succ, List.set_cons_zero]
          replace KA := KA.trans K_
          clear K_
          refine AnyR.take (i := 5) (v := ?v5_6) rfl (by kernel_rfl) (by kernel_rfl) (by kernel_rfl) rfl (fun _ _ _ h => h) (by simp) (by rfl) ?y5_6 ?r5_6
          case y5_6 => (intro w9 k9; (obtain ⟨y0, y1, y2⟩ := F.out _ (KA.trans k9); go_wp2_with fail); refine ⟨rfl, rfl, ?_, by first | assumption | exact (by repeat (with_reducible (first | exact Kp.refl _ | refine Kp.alloc ?_ _ | refine Kp.drew ?_ | refine Kp.drewN ?_ _ | refine Kp.setCell ?_ (by first | assumption | (simp; done) | (simp; omega)) _)))⟩; simp only [Array.getD_eq_getD_getElem?, List.getElem?_toArray, List.getElem?_cons_succ, List.getElem?_cons_zero, Option.getD_some]; first | with_reducible rfl | rfl)
          intro V6 K_
          simp only [List.setIfInBounds_toArray, List.set_cons_succ, List.set_cons_zero]
          replace KA := KA.trans K_
          clear K_
          refine AnyR.take (i := 6) (v := ?v6_7) rfl (by kernel_rfl) (by kernel_rfl) (by kernel_rfl) rfl (fun _ _ _ h => h) (by simp) (by rfl) ?y6_7 ?r6_7
          case y6_7 => (intro w9 k9; (go_wp2_with (refine (hwa.out _ (KA.trans k9)).mono ?_; rintro e w8 ⟨rfl, k8⟩)); refine ⟨rfl, rfl, ?_, by first | assumption | exact (by repeat (with_reducible (first | exact Kp.refl _ | refine Kp.alloc ?_ _ | refine Kp.drew ?_ | refine Kp.drewN ?_ _ | refine Kp.setCell ?_ (by first | assumption | (simp; done) | (simp; omega)) _)))⟩; simp only [Array.getD_eq_getD_getElem?, List.getElem?_toArray, List.getElem?_cons_succ, List.getElem?_cons_zero, Option.getD_some]; first | with_reducible rfl | rfl)
          intro V7 K_
          simp only [List.setIfInBounds_toArray, List.set_cons_succ, List.set_cons_zero]
          replace KA := KA.trans K_
          clear K_
          refine AnyR.take (i := 7) (v := ?v7_8) rfl (by kernel_rfl) (by kernel_rfl) (by kernel_rfl) rfl (fun _ _ _ h => h) (by simp) (by rfl) ?y7_8 ?r7_8
          case y7_8 => (intro w9 k9; (obtain ⟨y0, y1, y2⟩ := F.out _ (KA.trans k9); go_wp2_with fail); refine ⟨rfl, rfl, ?_, by first | assumption | exact (by repeat (with_reducible (first | exact Kp.refl _ | refine Kp.alloc ?_ _ | refine Kp.drew ?_ | refine Kp.drewN ?_ _ | refine Kp.setCell ?_ (by first | assumption | (simp; done) | (simp; omega)) _)))⟩; simp only [Array.getD_eq_getD_getElem?, List.getElem?_toArray, List.getElem?_cons_succ, List.getElem?_cons_zero, Option.getD_some]; first | with_reducible rfl | rfl)
          intro V8 K_
          simp only [List.setIfInBounds_toArray, List.set_cons_succ, List.set_cons_zero]
          replace KA := KA.trans K_
          clear K_
          refine AnyR.take (i := 8) (v := ?v8_9) rfl (by kernel_rfl) (by kernel_rfl) (by kernel_rfl) rfl (fun _ _ _ h => h) (by simp) (by rfl) ?y8_9 ?r8_9
          case y8_9 => (intro w9 k9; (obtain ⟨y0, y1, y2⟩ := F.out _ (KA.trans k9); go_wp2_with fail); refine ⟨rfl, rfl, ?_, by first | assumption | exact (by repeat (with_reducible (first | exact Kp.refl _ | refine Kp.alloc ?_ _ | refine Kp.drew ?_ | refine Kp.drewN ?_ _ | refine Kp.setCell ?_ (by first | assumption | (simp; done) | (simp; omega)) _)))⟩; simp only [Array.getD_eq_getD_getElem?, List.getElem?_toArray, List.getElem?_cons_succ, List.getElem?_cons_zero, Option.getD_some]; first | with_reducible rfl | rfl)
          intro V9 K_
          simp only [List.setIfInBounds_toArray, List.set_cons_succ, List.set_cons_zero]
          replace KA := KA.trans K_
          clear K_
          refine AnyR.take (i := 9) (v := ?v9_10) rfl (by kernel_rfl) (by kernel_rfl) (by kernel_rfl) rfl (fun _ _ _ h => h) (by simp) (by rfl) ?y9_10 ?r9_10
          case y9_10 => (intro w9 k9; (obtain ⟨y0, y1, y2⟩ := F.out _ (KA.trans k9); go_wp2_with fail); refine ⟨rfl, rfl, ?_, by first | assumption | exact (by repeat (with_reducible (first | exact Kp.refl _ | refine Kp.alloc ?_ _ | refine Kp.drew ?_ | refine Kp.drewN ?_ _ | refine Kp.setCell ?_ (by first | assumption | (simp; done) | (simp; omega)) _)))⟩; simp only [Array.getD_eq_getD_getElem?, List.getElem?_toArray, List.getElem?_cons_succ, List.getElem?_cons_zero, Option.getD_some]; first | with_reducible rfl | rfl)
          intro V10 K_
          simp only [List.setIfInBounds_toArray, List.set_cons_succ, List.set_cons_zero]
          replace KA := KA.trans K_
          clear K_
          refine AnyR.take (i := 10) (v := ?v10_11) rfl (by kernel_rfl) (by kernel_rfl) (by kernel_rfl) rfl (fun _ _ _ h => h) (by simp) (by rfl) ?y10_11 ?r10_11
          case y10_11 => (intro w9 k9; (obtain ⟨y0, y1, y2⟩ := F.out _ (KA.trans k9); go_wp2_with fail); refine ⟨rfl, rfl, ?_, by first | assumption | exact (by repeat (with_reducible (first | exact Kp.refl _ | refine Kp.alloc ?_ _ | refine Kp.drew ?_ | refine Kp.drewN ?_ _ | refine Kp.setCell ?_ (by first | assumption | (simp; done) | (simp; omega)) _)))⟩; simp only [Array.getD_eq_getD_getElem?, List.getElem?_toArray, List.getElem?_cons_succ, List.getElem?_cons_zero, Option.getD_some]; first | with_reducible rfl | rfl)
          intro V11 K_
          simp only [List.setIfInBounds_toArray, List.set_cons_succ, List.set_cons_zero]
          replace KA := KA.trans K_
          clear K_
          refine AnyR.take (i := 11) (v := ?v11_12) rfl (by kernel_rfl) (by kernel_rfl) (by kernel_rfl) rfl (fun _ _ _ h => h) (by simp) (by rfl) ?y11_12 ?r11_12
          case y11_12 => (intro w9 k9; (obtain ⟨y0, y1, y2⟩ := F.out _ (KA.trans k9); go_wp2_with fail); refine ⟨rfl, rfl, ?_, by first | assumption | exact (by repeat (with_reducible (first | exact Kp.refl _ | refine Kp.alloc ?_ _ | refine Kp.drew ?_ | refine Kp.drewN ?_ _ | refine Kp.setCell ?_ (by first | assumption | (simp; done) | (simp; omega)) _)))⟩; simp only [Array.getD_eq_getD_getElem?, List.getElem?_toArray, List.getElem?_cons_succ, List.getElem?_cons_zero, Option.getD_some]; first | with_reducible rfl | rfl)
          intro V12 K_
          simp only [List.setIfInBounds_toArray, List.set_cons_succ, List.set_cons_zero]
          replace KA := KA.trans K_
          clear K_
          refine AnyR.take (i := 12) (v := ?v12_13) rfl (by kernel_rfl) (by kernel_rfl) (by kernel_rfl) rfl (fun _ _ _ h => h) (by simp) (by rfl) ?y12_13 ?r12_13
          case y12_13 => (intro w9 k9; (obtain ⟨y0, y1, y2⟩ := F.out _ (KA.trans k9); go_wp2_with fail); refine ⟨rfl, rfl, ?_, by first | assumption | exact (by repeat (with_reducible (first | exact Kp.refl _ | refine Kp.alloc ?_ _ | refine Kp.drew ?_ | refine Kp.drewN ?_ _ | refine Kp.setCell ?_ (by first | assumption | (simp; done) | (simp; omega)) _)))⟩; simp only [Array.getD_eq_getD_getElem?, List.getElem?_toArray, List.getElem?_cons_succ, List.getElem?_cons_zero, Option.getD_some]; first | with_reducible rfl | rfl)
          intro V13 K_
          simp only [List.setIfInBounds_toArray, List.set_cons_succ, List.set_cons_zero]
          replace KA := KA.trans K_
          clear K_
          refine AnyR.take (i := 13) (v := ?v13_14) rfl (by kernel_rfl) (by kernel_rfl) (by kernel_rfl) rfl (fun _ _ _ h => h) (by simp) (by rfl) ?y13_14 ?r13_14
          case y13_14 => (intro w9 k9; (go_wp2_with (refine (hwb.out _ (KA.trans k9)).mono ?_; rintro e w8 ⟨rfl, k8⟩)); refine ⟨rfl, rfl, ?_, by first | assumption | exact (by repeat (with_reducible (first | exact Kp.refl _ | refine Kp.alloc ?_ _ | refine Kp.drew ?_ | refine Kp.drewN ?_ _ | refine Kp.setCell ?_ (by first | assumption | (simp; done) | (simp; omega)) _)))⟩; simp only [Array.getD_eq_getD_getElem?, List.getElem?_toArray, List.getElem?_cons_succ, List.getElem?_cons_zero, Option.getD_some]; first | with_reducible rfl | rfl)
          intro V14 K_
          simp only [List.setIfInBounds_toArray, List.set_cons_succ, List.set_cons_zero]
          replace KA := KA.trans K_
          clear K_
          refine AnyR.take (i := 14) (v := ?v14_15) rfl (by kernel_rfl) (by kernel_rfl) (by kernel_rfl) rfl (fun _ _ _ h => h) (by simp) (by rfl) ?y14_15 ?r14_15
          case y14_15 => (intro w9 k9; go_wp2_with fail; refine ⟨rfl, rfl, ?_, by first | assumption | exact (by repeat (with_reducible (first | exact Kp.refl _ | refine Kp.alloc ?_ _ | refine Kp.drew ?_ | refine Kp.drewN ?_ _ | refine Kp.setCell ?_ (by first | assumption | (simp; done) | (simp; omega)) _)))⟩; simp only [Array.getD_eq_getD_getElem?, List.getElem?_toArray, List.getElem?_cons_succ, List.getElem?_cons_zero, Option.getD_some]; first | with_reducible rfl | rfl)
          intro V15 K_
          simp only [List.setIfInBounds_toArray, List.set_cons_succ, List.set_cons_zero]
          replace KA := KA.trans K_
          clear K_
          refine AnyR.take (i := 15) (v := ?v15_16) rfl (by kernel_rfl) (by kernel_rfl) (by kernel_rfl) rfl (fun _ _ _ h => h) (by simp) (by rfl) ?y15_16 ?r15_16
          case y15_16 => (intro w9 k9; go_wp2_with fail; refine ⟨rfl, rfl, ?_, by first | assumption | exact (by repeat (with_reducible (first | exact Kp.refl _ | refine Kp.alloc ?_ _ | refine Kp.drew ?_ | refine Kp.drewN ?_ _ | refine Kp.setCell ?_ (by first | assumption | (simp; done) | (simp; omega)) _)))⟩; simp only [Array.getD_eq_getD_getElem?, List.getElem?_toArray, List.getElem?_cons_succ, List.getElem?_cons_zero, Option.getD_some]; first | with_reducible rfl | rfl)
          intro V16 K_
          simp only [List.setIfInBounds_toArray, List.set_cons_succ, List.set_cons_zero]
          replace KA := KA.trans K_
          clear K_
          refine AnyR.done (by kernel_rfl) ?_
          have B1 := B0.kp KA
          have K1 := K0.trans KA
          clear B0 K0 KA F hwa hwb
          obtain ⟨y0, y1, y2, y3, y4⟩ := B1.cr
          have f4 := B1.free 4
          go_upto_if 54 with (fail)
          have hz16 := K1.size
          generalize V16 = W0 at *
          go_cut [] (fun wx => Kp wo wx ∧ Blk wx wo.heap.size 73 (crA (if bl = ab then ⟨xa, xb, xc, xd, xp⟩ else ⟨xa, xb, xc, xd, !xp⟩)))
          case first =>
            cases bl <;> cases ab
            · go_wp2_with fail
              go_meet
              case rel => exact ⟨K1, by simpa [crA] using B1⟩
            · go_wp2_with fail
              go_meet
              case rel => exact ⟨(by repeat (with_reducible (first | exact K1 | refine Kp.alloc ?_ _ | refine Kp.drew ?_ | refine Kp.drewN ?_ _ | refine Kp.setCell ?_ (by first | assumption | (simp; done) | (simp; omega)) _))), by simpa [crA] using B1.set_ 4 (.bool (!xp))⟩
            · go_wp2_with fail
              go_meet
              case rel => exact ⟨(by repeat (with_reducible (first | exact K1 | refine Kp.alloc ?_ _ | refine Kp.drew ?_ | refine Kp.drewN ?_ _ | refine Kp.setCell ?_ (by first | assumption | (simp; done) | (simp; omega)) _))), by simpa [crA] using B1.set_ 4 (.bool (!xp))⟩
            · go_wp2_with fail
              go_meet
              case rel => exact ⟨K1, by simpa [crA] using B1⟩
          case rest =>
            clear K1 B1 y0 y1 y2 y3 y4 f4
            obtain ⟨K1, B1⟩ := hcut
            have hrc : Hid (revC bl ab ⟨xa, xb, xc, xd, xp⟩ = rev1 bl (if bl = ab then ⟨xa, xb, xc, xd, xp⟩ else ⟨xa, xb, xc, xd, !xp⟩)) := by rw [Hid]; cases bl <;> cases ab <;> rfl
            rw [hrc.out] at hmt
            generalize (if bl = ab then (⟨xa, xb, xc, xd, xp⟩ : Cr) else ⟨xa, xb, xc, xd, !xp⟩) = y at *
            obtain ⟨ya, yb, yc, yd, yp⟩ := y
            dsimp only [crA] at *
            obtain ⟨y0, y1, y2, y3, y4⟩ := B1.cr
            have f0 := B1.free 0
            have f1 := B1.free 1
            have f2 := B1.free 2
            have f3 := B1.free 3
            go_upto_if 59 with (fail)
            go_cut [] (fun wx => Kp wo wx ∧ Blk wx wo.heap.size 73 (crA (rev1 bl ⟨ya, yb, yc, yd, yp⟩)))
            case first =>
              cases bl
              · go_wp2_with fail
                go_meet
                case rel => exact ⟨K1, B1⟩
              · go_wp2_with fail
                go_meet
                case rel => exact ⟨(by repeat (with_reducible (first | exact K1 | refine Kp.alloc ?_ _ | refine Kp.drew ?_ | refine Kp.drewN ?_ _ | refine Kp.setCell ?_ (by first | assumption | (simp; done) | (simp; omega)) _))), by simpa [crA, rev1] using (((B1.set_ 0 (.int .i64 yc)).set_ 1 (.int .i64 yd)).set_ 2 (.int .i64 ya)).set_ 3 (.int .i64 yb)⟩
            case rest =>
              clear K1 B1 y0 y1 y2 y3 y4 f0 f1 f2 f3 hrc
              obtain ⟨K1, B1⟩ := hcut
              generalize rev1 bl ⟨ya, yb, yc, yd, yp⟩ = y at *
              obtain ⟨za, zb, zc, zd, zp⟩ := y
              dsimp only [crA] at *
              obtain ⟨y0, y1, y2, y3, y4⟩ := B1.cr
              have b3' := b3.kp K1
              have ho' := ho.kp K1
              obtain ⟨z0, z1, z2, z3⟩ := b3'.two
              have hz4 := K1.size
              have hbs : Hid (w1.heap.size + 1 ≤ wc.heap.size) := by rw [Hid]; omega
              have hyl2 : ys.length ≤ 16 := by have := hyl.out; omega
              clear b3 ho
              go_wp2_with (at_builtin; refine push_of (C := codCr) (y := ⟨za, zb, zc, zd, zp⟩) slCr rfl _ _ rfl ho' rfl rfl rfl rfl (cr_one1 _) (by show (_ + 1) * 40 ≤ _; omega) (by have := hbs.out; omega) ?_; intro v' w3 hv3 hg3 _; obtain ⟨A7, c7, rfl, hc7⟩ := hv3.sl; obtain ⟨z0', z1', z2', z3'⟩ := (b3'.gr hg3 (fun e => by have := (ho'.lt w1.heap.size e.symm).1; omega)).two)
              have b4 := b3'.gr hg3 (fun e => by have := (ho'.lt w1.heap.size e.symm).1; omega)
              have kk : Kp w1 w3 := (hk1.trans K1).grown hg3 (fun k e => by have := (ho'.lt k e).1; omega)
              go_roundw
              case rel => exact ⟨n + 1, .slice A7 (ys ++ [(⟨za, zb, zc, zd, zp⟩ : Cr)]).length c7, ys ++ [(⟨za, zb, zc, zd, zp⟩ : Cr)], by omega, by go_num, by simp [hyl.out], by rw [Hid, hmt.out, ← hys.out], (by repeat (with_reducible (first | exact kk | refine Kp.alloc ?_ _ | refine Kp.drew ?_ | refine Kp.drewN ?_ _ | refine Kp.setCell ?_ (by first | assumption | (simp; done) | (simp; omega)) _))), by simpa using b4.set_ 0 (.slice A7 (ys ++ [(⟨za, zb, zc, zd, zp⟩ : Cr)]).length c7), hv3.setLow (p := ⟨w1.heap.size, 0, none⟩) (by simp) _⟩
              case measure => simp [intOf] <;> omega
        · obtain rfl : n = d.crs.length := by omega
          have hye : ys = (revD d pt).crs := by rw [hR.out]; have := hys.out; rwa [show d.crs.length = (d.crs.map fun x => revC (inB d pt x.a) (inB d pt x.b) x).length by simp, List.take_length] at this
          have hM : Ow codCr 73 wr (w1.heap.size + 1) (.slice A6 ys.length c6) (revD d pt).crs := by rw [← hye]; exact ho
          have hzz := hk1.size
          have rb := b2w.kp hk1
          obtain ⟨r0, r1, r2, r3⟩ := rb.two
          rw [hyl] at hM z0
          replace hM := Lib.hid hM
          clear hye hys ho b3 hyl
          go_wp2_with fail
          refine bodyPost_ret (v := .tuple #[.agg #[.slice A6 d.crs.length c6, .int .i64 d.loops], .int .i64 0]) (by simp [results, Try.results30, go_sem, *]) rfl ?_
          exact ⟨_, by rw [hres.out], by rw [hres.out]; exact IsDg.of_rv (d := revD d pt) (Ow.rv (E := 73) (base := w1.heap.size + 1) (by repeat (with_reducible (first | exact hM.out | refine Ow.al ?_ _ | refine Ow.drew ?_ | refine Ow.setLow ?_ (by first | assumption | (simp; done) | (simp; omega)) _))) (by show _ * 40 ≤ _; simp [revD]; omega)), (by repeat (with_reducible (first | exact hkw.trans hk1 | refine Kp.alloc ?_ _ | refine Kp.drew ?_ | refine Kp.drewN ?_ _ | refine Kp.setCell ?_ (by first | assumption | (simp; done) | (simp; omega)) _)))⟩
end Go.Proofs.Ytlbpgnimpcflaaa
