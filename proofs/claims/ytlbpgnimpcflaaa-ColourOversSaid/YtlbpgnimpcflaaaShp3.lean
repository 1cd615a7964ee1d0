/- A diagram at work: the arc at a place, and the next arc on its strand. -/
import Derived.Test.YtlbpgnimpcflaaaShp2
namespace Go.Proofs.Ytlbpgnimpcflaaa
open Go.ChangeShapes Go.WideShapes Go.ChangeAt Go.RowKit

theorem IsSh.kp {w w' : World} {b0 : Nat} {v : Value} {d : Dg} (h : IsSh w b0 v d) (hk : Kp w w') : IsSh w' b0 v d := by
  obtain ⟨g, A, c, gi, go, r1, r2, r3, r4, r5, r6, r7⟩ := h
  exact ⟨g, A, c, gi, go, r1, r2, r3, r4.kp hk, r5.kp hk, r6.kp hk, r7.kp hk⟩
theorem Ow.rd {α : Type} {C : Cod α} {E : TypeId} {w : World} {b n c : Nat} {A : Option Addr} {xs : List α} (h : Ow C E w b (.slice A n c) xs) (hr : xs.length * C.u8 ≤ 140737488355328) : Rd C w w.heap.size A xs := by
  obtain rfl := h.n_eq
  exact Sl.of_own h hr
/-- What is read of a diagram at work. -/
theorem IsSh.look {w : World} {b0 : Nat} {v : Value} {d : Dg} (h : IsSh w b0 v d) (hn : d.crs.length ≤ 16) : ∃ g A c gi go, v = .pointer (some ⟨g, 0, none⟩) ∧ g < w.heap.size ∧ gi < w.heap.size ∧ go < w.heap.size ∧
    w.cell? ⟨g, 0, none⟩ = some (.slice A d.crs.length c) ∧ w.cell? ⟨g, 1, none⟩ = some (.int .i64 d.loops) ∧
    w.cell? ⟨g, 2, none⟩ = some (.slice (some ⟨gi, 0, none⟩) (2 * d.crs.length + 1) (2 * d.crs.length + 1)) ∧ w.cell? ⟨g, 3, none⟩ = some (.slice (some ⟨go, 0, none⟩) (2 * d.crs.length + 1) (2 * d.crs.length + 1)) ∧
    Rd codCr w w.heap.size A d.crs ∧
    Hid (∀ a, a < 2 * d.crs.length + 1 → w.cell? ⟨gi, a * 2, none⟩ = some (.int .i64 (lastP d a false (4 * d.crs.length)).1) ∧ w.cell? ⟨gi, a * 2 + 1, none⟩ = some (.int .i64 (lastP d a false (4 * d.crs.length)).2)) ∧
    Hid (∀ a, a < 2 * d.crs.length + 1 → w.cell? ⟨go, a * 2, none⟩ = some (.int .i64 (lastP d a true (4 * d.crs.length)).1) ∧ w.cell? ⟨go, a * 2 + 1, none⟩ = some (.int .i64 (lastP d a true (4 * d.crs.length)).2)) := by
  obtain ⟨g, A, c, gi, go, rfl, r2, r3, r4, r5, r6, r7⟩ := h
  obtain ⟨s0, s1, s2, s3⟩ := r4.four
  refine ⟨g, A, c, gi, go, rfl, r4.lt, (r6.lt gi rfl).2, (r7.lt go rfl).2, s0, s1, s2, s3, r5.rd (by show d.crs.length * 40 ≤ _; omega), fun a ha => ?_, fun a ha => ?_⟩
  · have h0 := r6.cell (i := a) (by rw [tabL_len]; exact ha) (j := 0) (by decide) rfl
    have h1 := r6.cell (i := a) (by rw [tabL_len]; exact ha) (j := 1) (by decide) rfl
    rw [tabL_get ha] at h0 h1
    exact ⟨h0, h1⟩
  · have h0 := r7.cell (i := a) (by rw [tabL_len]; exact ha) (j := 0) (by decide) rfl
    have h1 := r7.cell (i := a) (by rw [tabL_len]; exact ha) (j := 1) (by decide) rfl
    rw [tabL_get ha] at h0 h1
    exact ⟨h0, h1⟩

set_option maxRecDepth 100000 in
set_option maxHeartbeats 2000000 in
theorem at_any (v : Value) (d : Dg) (c k : Nat) (w : World) (b0 : Nat) (hs : IsSh w b0 v d) (hn : d.crs.length ≤ 16) (hc : c < d.crs.length) (hk : k < 4) :
    Calls Try.prog 96 #[v, .agg #[.int .i64 c, .int .i64 k]] w (IntPost (arcAt d c k) w) := by
  obtain ⟨g, A, cp, gi, go, rfl, lg, lgi, lgo, s0, s1, s2, s3, hr, _, _⟩ := hs.look hn
  obtain ⟨b, off, rfl, hb, c0, c1, c2, c3, c4⟩ := crAt hr hc
  obtain ⟨l0, l1, l2, l3, l4⟩ := lts hb
  obtain ⟨m0, m1, m2, m3, m4⟩ := lts lg
  have ha := Lib.hid fun w' => arc_any (Go.Proofs.Ytlbpgnimpcflaaa.ga d.crs c) k w' hk
  have hx : Hid (arcAt d c k = crArc (Go.Proofs.Ytlbpgnimpcflaaa.ga d.crs c) k) := rfl
  clear hr hs
  generalize Go.Proofs.Ytlbpgnimpcflaaa.ga d.crs c = x at *
  go_enter Try.func96, Try.ntmps96
  go_wp2_with fail
  go_region_held3 (fun W => W.cell? ⟨g, 0, none⟩ = some (.slice (some ⟨b, off, none⟩) d.crs.length cp) ∧ W.cell? ⟨w.heap.size, 0, none⟩ = some (.int .i64 c) ∧ W.cell? ⟨w.heap.size, 1, none⟩ = some (.int .i64 k) ∧
    W.cell? ⟨b, off + c * 5, none⟩ = some (.int .i64 x.a) ∧ W.cell? ⟨b, off + c * 5 + 1, none⟩ = some (.int .i64 x.b) ∧ W.cell? ⟨b, off + c * 5 + 2, none⟩ = some (.int .i64 x.c) ∧ W.cell? ⟨b, off + c * 5 + 3, none⟩ = some (.int .i64 x.d) ∧ W.cell? ⟨b, off + c * 5 + 4, none⟩ = some (.bool x.plus)) (go_keep)
    (first | (go_at_call 85; refine (ha.out _).mono ?_; rintro e w1 ⟨rfl, hk1⟩; obtain ⟨cc, cf⟩ := hk1.cf (n := w.heap.size + 1) (by simp)))
  go_wp2_with fail
  go_ret
  exact ⟨by rw [hx.out]; rfl, Kp.trans ((Kp.refl _).alloc _).drew (by assumption)⟩

/-- The arc behind an arc on its strand. -/
def nextA (d : Dg) (a : Int) : Int := arcAt d (endOf d a false).1 (((endOf d a false).2 + 2) % 4)

theorem endOf_lt {d : Dg} (h : arcsB d = true) {a : Nat} (h0 : 1 ≤ a) (h1 : a ≤ 2 * d.crs.length) (back : Bool) :
    (endOf d a back).1 < d.crs.length ∧ (endOf d a back).2 < 4 ∧ lastP d a back (4 * d.crs.length) = endOf d a back ∧ arcAt d (endOf d a back).1 (endOf d a back).2 = a ∧ entryB d (endOf d a back).1 (endOf d a back).2 = !back := by
  have hc : cntP d a back (4 * d.crs.length) = 1 := by cases back <;> simp [arcsB_out h a h0 h1]
  obtain ⟨j, j1, j2, j3, j4⟩ := cntP_one hc
  have e := lastP_end hc
  rw [j4] at e
  rw [← e]
  dsimp only
  unfold endP at j2
  rw [Bool.and_eq_true, decide_eq_true_iff] at j2
  refine ⟨by omega, by omega, by rw [j4], j2.1, ?_⟩
  have := j2.2
  cases back <;> cases hq : entryB d (j / 4) (j % 4) <;> simp_all

set_option maxRecDepth 100000 in
set_option maxHeartbeats 2000000 in
theorem next_any (v : Value) (d : Dg) (a : Nat) (w : World) (b0 : Nat) (hs : IsSh w b0 v d) (hn : d.crs.length ≤ 16) (ha : arcsB d = true) (h0 : 1 ≤ a) (h1 : a ≤ 2 * d.crs.length) :
    Calls Try.prog 83 #[v, .int .i64 a] w (IntPost (nextA d a) w) := by
  obtain ⟨e1, e2, e3, _, _⟩ := endOf_lt ha h0 h1 false
  have hat := Lib.hid fun w' (hk : Kp w w') => at_any v d (endOf d a false).1 (((endOf d a false).2 + 2) % 4) w' b0 (hs.kp hk) hn e1 (by omega)
  obtain ⟨g, A, cp, gi, go, rfl, lg, lgi, lgo, s0, s1, s2, s3, hr, hin, _⟩ := hs.look hn
  obtain ⟨i0, i1⟩ := hin.out a (by omega)
  rw [e3] at i0 i1
  have hx : Hid (nextA d a = arcAt d (endOf d a false).1 (((endOf d a false).2 + 2) % 4)) := rfl
  clear hr hs hin e3 ha
  generalize endOf d a false = p at *
  obtain ⟨p1, p2⟩ := p
  dsimp only at *
  have hm : (((p2 : Int) + 2) % 4) = (((p2 + 2) % 4 : Nat) : Int) := by omega
  generalize (p2 + 2) % 4 = m at *
  go_enter Try.func83, Try.ntmps83
  go_wp2_with fail
  refine (hat.out _ ((Kp.refl _).alloc _)).mono ?_; rintro e w1 ⟨rfl, hk1⟩
  go_wp2_with fail
  go_ret
  exact ⟨by rw [hx.out]; rfl, hk1.al⟩
end Go.Proofs.Ytlbpgnimpcflaaa
