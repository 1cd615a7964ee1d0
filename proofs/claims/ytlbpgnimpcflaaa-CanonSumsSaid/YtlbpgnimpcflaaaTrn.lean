/- A crossing that is turned: the program's walk. -/
import Derived.Test.YtlbpgnimpcflaaaMir0
import Derived.Test.YtlbpgnimpcflaaaRob
import Derived.Deep.RegionHeld3
import Derived.Deep.DrawnRows
namespace Go.Proofs.Ytlbpgnimpcflaaa
open Go.ChangeShapes Go.WideShapes Go.ChangeAt Go.RowKit

attribute [local go_sem ↓] Go.wp_at_zero Go.wp_at_succ

set_option maxHeartbeats 2000000 in
theorem turned1_any (x : Cr) (i k : Nat) (g h : Nat) (w : World) (h1 : Blk w g 73 #[.int .i64 x.a, .int .i64 x.b, .int .i64 x.c, .int .i64 x.d, .bool x.plus]) (h2 : Blk w h 3 #[.int .i64 k]) (hi : i < 4) (hk : k < 4) :
    Calls Try.prog 84 #[.int .i64 i, .pointer (some ⟨g, 0, none⟩), .pointer (some ⟨h, 0, none⟩)] w (IntPost (crArc x ((i + k) % 4)) w) := by
  have c0 := h1.cell 0 rfl
  have c1 := h1.cell 1 rfl
  have c2 := h1.cell 2 rfl
  have c3 := h1.cell 3 rfl
  have c4 := h1.cell 4 rfl
  obtain ⟨d0, _⟩ := h2.one
  have ha := Lib.hid fun w => arc_any x ((i + k) % 4) w (by omega)
  have hm : (((i : Int) + (k : Int)) % 4) = (((i + k) % 4 : Nat) : Int) := by omega
  unfold crV at ha
  generalize (i + k) % 4 = j at *
  go_enter Try.func84, Try.ntmps84
  go_wp2_with fail
  refine (ha.out _).mono ?_; rintro e w1 ⟨rfl, hk1⟩
  go_wp2_with fail
  go_ret
  exact ⟨rfl, hk1⟩

def turC (x : Cr) (k : Nat) : Cr := ⟨crArc x ((0 + k) % 4), crArc x ((1 + k) % 4), crArc x ((2 + k) % 4), crArc x ((3 + k) % 4), x.plus⟩
def CrPost (x : Cr) (w : World) (e : Ending) (w' : World) : Prop := e = .returned (crV x) ∧ Kp w w'

set_option maxRecDepth 100000 in
set_option maxHeartbeats 4000000 in
theorem turned_any (x : Cr) (k : Nat) (w : World) (hk : k < 4) : Calls Try.prog 62 #[crV x, .int .i64 k] w (CrPost (turC x k) w) := by
  have hC := Lib.hid fun (i : Nat) (w' : World) (h1 : Blk w' w.heap.size 73 #[.int .i64 x.a, .int .i64 x.b, .int .i64 x.c, .int .i64 x.d, .bool x.plus]) (h2 : Blk w' (w.heap.size + 1) 3 #[.int .i64 k]) (hi : i < 4) => turned1_any x i k w.heap.size (w.heap.size + 1) w' h1 h2 hi hk
  have h0 := Lib.hid fun w' b1 b2 => (show Calls Try.prog 84 #[.int .i64 0, .pointer (some ⟨w.heap.size, 0, none⟩), .pointer (some ⟨w.heap.size + 1, 0, none⟩)] w' (IntPost (crArc x ((0 + k) % 4)) w') from hC.out 0 w' b1 b2 (by omega))
  have h1 := Lib.hid fun w' b1 b2 => (show Calls Try.prog 84 #[.int .i64 1, .pointer (some ⟨w.heap.size, 0, none⟩), .pointer (some ⟨w.heap.size + 1, 0, none⟩)] w' (IntPost (crArc x ((1 + k) % 4)) w') from hC.out 1 w' b1 b2 (by omega))
  have h2 := Lib.hid fun w' b1 b2 => (show Calls Try.prog 84 #[.int .i64 2, .pointer (some ⟨w.heap.size, 0, none⟩), .pointer (some ⟨w.heap.size + 1, 0, none⟩)] w' (IntPost (crArc x ((2 + k) % 4)) w') from hC.out 2 w' b1 b2 (by omega))
  have h3 := Lib.hid fun w' b1 b2 => (show Calls Try.prog 84 #[.int .i64 3, .pointer (some ⟨w.heap.size, 0, none⟩), .pointer (some ⟨w.heap.size + 1, 0, none⟩)] w' (IntPost (crArc x ((3 + k) % 4)) w') from hC.out 3 w' b1 b2 (by omega))
  clear hC
  unfold turC
  generalize crArc x ((0 + k) % 4) = r0 at *
  generalize crArc x ((1 + k) % 4) = r1 at *
  generalize crArc x ((2 + k) % 4) = r2 at *
  generalize crArc x ((3 + k) % 4) = r3 at *
  unfold crV
  go_enter Try.func62, Try.ntmps62
  go_wp2_with fail
  have b1 := ((Blk.new w 73 #[.int .i64 x.a, .int .i64 x.b, .int .i64 x.c, .int .i64 x.d, .bool x.plus]).alloc (.cells #[.int .i64 k] 3)).alloc (.cells #[.int .i64 0, .int .i64 0, .int .i64 0, .int .i64 0, .bool false] 73)
  have b2 := (Blk.new' (w.alloc (.cells #[.int .i64 x.a, .int .i64 x.b, .int .i64 x.c, .int .i64 x.d, .bool x.plus] 73)) 3 #[.int .i64 k] (n := w.heap.size + 1) (by simp)).alloc (.cells #[.int .i64 0, .int .i64 0, .int .i64 0, .int .i64 0, .bool false] 73)
  have b3 := Blk.new' ((w.alloc (.cells #[.int .i64 x.a, .int .i64 x.b, .int .i64 x.c, .int .i64 x.d, .bool x.plus] 73)).alloc (.cells #[.int .i64 k] 3)) 73 #[.int .i64 0, .int .i64 0, .int .i64 0, .int .i64 0, .bool false] (n := w.heap.size + 1 + 1) (by simp)
  have hk0 : Kp w (((w.alloc (.cells #[.int .i64 x.a, .int .i64 x.b, .int .i64 x.c, .int .i64 x.d, .bool x.plus] 73)).alloc (.cells #[.int .i64 k] 3)).alloc (.cells #[.int .i64 0, .int .i64 0, .int .i64 0, .int .i64 0, .bool false] 73)) := (((Kp.refl _).alloc _).alloc _).alloc _
  generalize ((w.alloc (.cells #[.int .i64 x.a, .int .i64 x.b, .int .i64 x.c, .int .i64 x.d, .bool x.plus] 73)).alloc (.cells #[.int .i64 k] 3)).alloc (.cells #[.int .i64 0, .int .i64 0, .int .i64 0, .int .i64 0, .bool false] 73) = w0 at *
  have p4 := b1.cell 4 rfl
  have B1 := Lib.hid b1
  have B2 := Lib.hid b2
  have B3 := Lib.hid b3
  have hself := Kp.refl w0
  clear b1 b2 b3
  refine wp_region_rob (by kernel_rfl) ?_
  have K0 := hself.drew
  generalize w0.drew = W0 at *
  refine AnyR.take (i := 0) (v := ?v0_1) rfl (by kernel_rfl) (by kernel_rfl) (by kernel_rfl) rfl (fun _ _ _ h => h) (by simp) (by rfl) ?y0_1 ?r0_1
  case y0_1 => (intro w9 k9; go_wp2_with fail; refine ⟨rfl, rfl, ?_, by first | assumption | exact (by repeat (with_reducible (first | exact Kp.refl _ | refine Kp.alloc ?_ _ | refine Kp.drew ?_ | refine Kp.drewN ?_ _ | refine Kp.setCell ?_ (by first | assumption | (simp; done) | (simp; omega)) _)))⟩; simp only [Array.getD_eq_getD_getElem?, List.getElem?_toArray, List.getElem?_cons_succ, List.getElem?_cons_zero, Option.getD_some]; first | with_reducible rfl | rfl)
  intro W1 K1
  simp only [List.setIfInBounds_toArray, List.set_cons_succ, List.set_cons_zero]
  refine AnyR.take (i := 1) (v := ?v1_2) rfl (by kernel_rfl) (by kernel_rfl) (by kernel_rfl) rfl (fun _ _ _ h => h) (by simp) (by rfl) ?y1_2 ?r1_2
  case y1_2 => (intro w9 k9; (go_wp2_with (refine (h0.out _ (B1.out.kp ((K0.trans K1).trans k9)) (B2.out.kp ((K0.trans K1).trans k9))).mono ?_; rintro e w8 ⟨rfl, k8⟩)); refine ⟨rfl, rfl, ?_, by first | assumption | exact (by repeat (with_reducible (first | exact Kp.refl _ | refine Kp.alloc ?_ _ | refine Kp.drew ?_ | refine Kp.drewN ?_ _ | refine Kp.setCell ?_ (by first | assumption | (simp; done) | (simp; omega)) _)))⟩; simp only [Array.getD_eq_getD_getElem?, List.getElem?_toArray, List.getElem?_cons_succ, List.getElem?_cons_zero, Option.getD_some]; first | with_reducible rfl | rfl)
  intro W2 K2
  simp only [List.setIfInBounds_toArray, List.set_cons_succ, List.set_cons_zero]
  refine AnyR.take (i := 2) (v := ?v2_3) rfl (by kernel_rfl) (by kernel_rfl) (by kernel_rfl) rfl (fun _ _ _ h => h) (by simp) (by rfl) ?y2_3 ?r2_3
  case y2_3 => (intro w9 k9; go_wp2_with fail; refine ⟨rfl, rfl, ?_, by first | assumption | exact (by repeat (with_reducible (first | exact Kp.refl _ | refine Kp.alloc ?_ _ | refine Kp.drew ?_ | refine Kp.drewN ?_ _ | refine Kp.setCell ?_ (by first | assumption | (simp; done) | (simp; omega)) _)))⟩; simp only [Array.getD_eq_getD_getElem?, List.getElem?_toArray, List.getElem?_cons_succ, List.getElem?_cons_zero, Option.getD_some]; first | with_reducible rfl | rfl)
  intro W3 K3
  simp only [List.setIfInBounds_toArray, List.set_cons_succ, List.set_cons_zero]
  refine AnyR.take (i := 3) (v := ?v3_4) rfl (by kernel_rfl) (by kernel_rfl) (by kernel_rfl) rfl (fun _ _ _ h => h) (by simp) (by rfl) ?y3_4 ?r3_4
  case y3_4 => (intro w9 k9; (go_wp2_with (refine (h1.out _ (B1.out.kp ((((K0.trans K1).trans K2).trans K3).trans k9)) (B2.out.kp ((((K0.trans K1).trans K2).trans K3).trans k9))).mono ?_; rintro e w8 ⟨rfl, k8⟩)); refine ⟨rfl, rfl, ?_, by first | assumption | exact (by repeat (with_reducible (first | exact Kp.refl _ | refine Kp.alloc ?_ _ | refine Kp.drew ?_ | refine Kp.drewN ?_ _ | refine Kp.setCell ?_ (by first | assumption | (simp; done) | (simp; omega)) _)))⟩; simp only [Array.getD_eq_getD_getElem?, List.getElem?_toArray, List.getElem?_cons_succ, List.getElem?_cons_zero, Option.getD_some]; first | with_reducible rfl | rfl)
  intro W4 K4
  simp only [List.setIfInBounds_toArray, List.set_cons_succ, List.set_cons_zero]
  refine AnyR.take (i := 4) (v := ?v4_5) rfl (by kernel_rfl) (by kernel_rfl) (by kernel_rfl) rfl (fun _ _ _ h => h) (by simp) (by rfl) ?y4_5 ?r4_5
  case y4_5 => (intro w9 k9; go_wp2_with fail; refine ⟨rfl, rfl, ?_, by first | assumption | exact (by repeat (with_reducible (first | exact Kp.refl _ | refine Kp.alloc ?_ _ | refine Kp.drew ?_ | refine Kp.drewN ?_ _ | refine Kp.setCell ?_ (by first | assumption | (simp; done) | (simp; omega)) _)))⟩; simp only [Array.getD_eq_getD_getElem?, List.getElem?_toArray, List.getElem?_cons_succ, List.getElem?_cons_zero, Option.getD_some]; first | with_reducible rfl | rfl)
  intro W5 K5
  simp only [List.setIfInBounds_toArray, List.set_cons_succ, List.set_cons_zero]
  refine AnyR.take (i := 5) (v := ?v5_6) rfl (by kernel_rfl) (by kernel_rfl) (by kernel_rfl) rfl (fun _ _ _ h => h) (by simp) (by rfl) ?y5_6 ?r5_6
  case y5_6 => (intro w9 k9; (go_wp2_with (refine (h2.out _ (B1.out.kp ((((((K0.trans K1).trans K2).trans K3).trans K4).trans K5).trans k9)) (B2.out.kp ((((((K0.trans K1).trans K2).trans K3).trans K4).trans K5).trans k9))).mono ?_; rintro e w8 ⟨rfl, k8⟩)); refine ⟨rfl, rfl, ?_, by first | assumption | exact (by repeat (with_reducible (first | exact Kp.refl _ | refine Kp.alloc ?_ _ | refine Kp.drew ?_ | refine Kp.drewN ?_ _ | refine Kp.setCell ?_ (by first | assumption | (simp; done) | (simp; omega)) _)))⟩; simp only [Array.getD_eq_getD_getElem?, List.getElem?_toArray, List.getElem?_cons_succ, List.getElem?_cons_zero, Option.getD_some]; first | with_reducible rfl | rfl)
  intro W6 K6
  simp only [List.setIfInBounds_toArray, List.set_cons_succ, List.set_cons_zero]
  refine AnyR.take (i := 6) (v := ?v6_7) rfl (by kernel_rfl) (by kernel_rfl) (by kernel_rfl) rfl (fun _ _ _ h => h) (by simp) (by rfl) ?y6_7 ?r6_7
  case y6_7 => (intro w9 k9; go_wp2_with fail; refine ⟨rfl, rfl, ?_, by first | assumption | exact (by repeat (with_reducible (first | exact Kp.refl _ | refine Kp.alloc ?_ _ | refine Kp.drew ?_ | refine Kp.drewN ?_ _ | refine Kp.setCell ?_ (by first | assumption | (simp; done) | (simp; omega)) _)))⟩; simp only [Array.getD_eq_getD_getElem?, List.getElem?_toArray, List.getElem?_cons_succ, List.getElem?_cons_zero, Option.getD_some]; first | with_reducible rfl | rfl)
  intro W7 K7
  simp only [List.setIfInBounds_toArray, List.set_cons_succ, List.set_cons_zero]
  refine AnyR.take (i := 7) (v := ?v7_8) rfl (by kernel_rfl) (by kernel_rfl) (by kernel_rfl) rfl (fun _ _ _ h => h) (by simp) (by rfl) ?y7_8 ?r7_8
  case y7_8 => (intro w9 k9; (go_wp2_with (refine (h3.out _ (B1.out.kp ((((((((K0.trans K1).trans K2).trans K3).trans K4).trans K5).trans K6).trans K7).trans k9)) (B2.out.kp ((((((((K0.trans K1).trans K2).trans K3).trans K4).trans K5).trans K6).trans K7).trans k9))).mono ?_; rintro e w8 ⟨rfl, k8⟩)); refine ⟨rfl, rfl, ?_, by first | assumption | exact (by repeat (with_reducible (first | exact Kp.refl _ | refine Kp.alloc ?_ _ | refine Kp.drew ?_ | refine Kp.drewN ?_ _ | refine Kp.setCell ?_ (by first | assumption | (simp; done) | (simp; omega)) _)))⟩; simp only [Array.getD_eq_getD_getElem?, List.getElem?_toArray, List.getElem?_cons_succ, List.getElem?_cons_zero, Option.getD_some]; first | with_reducible rfl | rfl)
  intro W8 K8
  simp only [List.setIfInBounds_toArray, List.set_cons_succ, List.set_cons_zero]
  have KA : Kp w0 W8 := K0.trans (K1.trans (K2.trans (K3.trans (K4.trans (K5.trans (K6.trans (K7.trans K8)))))))
  clear K0 K1 K2 K3 K4 K5 K6 K7 K8
  refine AnyR.take (i := 8) (v := ?v8_9) rfl (by kernel_rfl) (by kernel_rfl) (by kernel_rfl) rfl (fun _ _ _ h => h) (by simp) (by rfl) ?y8_9 ?r8_9
  case y8_9 => (intro w9 k9; go_wp2_with fail; refine ⟨rfl, rfl, ?_, by first | assumption | exact (by repeat (with_reducible (first | exact Kp.refl _ | refine Kp.alloc ?_ _ | refine Kp.drew ?_ | refine Kp.drewN ?_ _ | refine Kp.setCell ?_ (by first | assumption | (simp; done) | (simp; omega)) _)))⟩; simp only [Array.getD_eq_getD_getElem?, List.getElem?_toArray, List.getElem?_cons_succ, List.getElem?_cons_zero, Option.getD_some]; first | with_reducible rfl | rfl)
  intro W9 K9
  simp only [List.setIfInBounds_toArray, List.set_cons_succ, List.set_cons_zero]
  have KB := KA.trans K9
  have p5 := KB.c p4
  refine AnyR.take (i := 9) (v := ?v9_10) rfl (by kernel_rfl) (by kernel_rfl) (by kernel_rfl) rfl (fun _ _ _ h => h) (by simp) (by rfl) ?y9_10 ?r9_10
  case y9_10 => (intro w9 k9; (have p6 := k9.c p5; go_wp2_with fail); refine ⟨rfl, rfl, ?_, by first | assumption | exact (by repeat (with_reducible (first | exact Kp.refl _ | refine Kp.alloc ?_ _ | refine Kp.drew ?_ | refine Kp.drewN ?_ _ | refine Kp.setCell ?_ (by first | assumption | (simp; done) | (simp; omega)) _)))⟩; simp only [Array.getD_eq_getD_getElem?, List.getElem?_toArray, List.getElem?_cons_succ, List.getElem?_cons_zero, Option.getD_some]; first | with_reducible rfl | rfl)
  intro WA K10
  simp only [List.setIfInBounds_toArray, List.set_cons_succ, List.set_cons_zero]
  refine AnyR.take (i := 10) (v := ?v10_11) rfl (by kernel_rfl) (by kernel_rfl) (by kernel_rfl) rfl (fun _ _ _ h => h) (by simp) (by rfl) ?y10_11 ?r10_11
  case y10_11 => (intro w9 k9; go_wp2_with fail; refine ⟨rfl, rfl, ?_, by first | assumption | exact (by repeat (with_reducible (first | exact Kp.refl _ | refine Kp.alloc ?_ _ | refine Kp.drew ?_ | refine Kp.drewN ?_ _ | refine Kp.setCell ?_ (by first | assumption | (simp; done) | (simp; omega)) _)))⟩; simp only [Array.getD_eq_getD_getElem?, List.getElem?_toArray, List.getElem?_cons_succ, List.getElem?_cons_zero, Option.getD_some]; first | with_reducible rfl | rfl)
  intro WB K11
  simp only [List.setIfInBounds_toArray, List.set_cons_succ, List.set_cons_zero]
  have KC := KB.trans (K10.trans K11)
  have t0 := (B3.out.kp KC).cell 0 rfl
  have t1 := (B3.out.kp KC).cell 1 rfl
  have t2 := (B3.out.kp KC).cell 2 rfl
  have t3 := (B3.out.kp KC).cell 3 rfl
  have t4 := (B3.out.kp KC).cell 4 rfl
  have f0 := (B3.out.kp KC).free 0
  have f1 := (B3.out.kp KC).free 1
  have f2 := (B3.out.kp KC).free 2
  have f3 := (B3.out.kp KC).free 3
  have f4 := (B3.out.kp KC).free 4
  clear p4 p5
  refine AnyR.close (j := 11) rfl (by kernel_rfl) (by kernel_rfl) (by kernel_rfl) ?_
  go_wp2_with fail
  refine bodyPost_ret (v := .agg #[.int .i64 r0, .int .i64 r1, .int .i64 r2, .int .i64 r3, .bool x.plus]) (by simp [results, Try.results62, go_sem, *]) rfl ?_
  exact ⟨rfl, (by repeat (with_reducible (first | exact hk0.trans KC | refine Kp.alloc ?_ _ | refine Kp.drew ?_ | refine Kp.drewN ?_ _ | refine Kp.setCell ?_ (by first | assumption | (simp; done) | (simp; omega)) _)))⟩
end Go.Proofs.Ytlbpgnimpcflaaa
