/- Mirror images: the reference's walk. -/
import Derived.Test.YtlbpgnimpcflaaaGau3
namespace Go.Proofs.Ytlbpgnimpcflaaa
open Go.ChangeShapes Go.WideShapes Go.ChangeAt Go.RowKit

def mirC (c : Cr) : Cr := if c.plus = true then ⟨c.d, c.a, c.b, c.c, false⟩ else ⟨c.b, c.c, c.d, c.a, true⟩
def mirD (d : Dg) : Dg := ⟨d.crs.map mirC, d.loops⟩
theorem cr_one1 (x : Cr) : ∀ u ∈ codCr.f x, u.oneCell' = true := by
  intro u hu
  simp [codCr, crF] at hu
  rcases hu with rfl | rfl | rfl | rfl | rfl <;> rfl
theorem map_take_cr (f : Cr → Cr) (xs : List Cr) (k : Nat) (h : k < xs.length) : (xs.map f).take (k + 1) = (xs.map f).take k ++ [f (ga xs k)] := by
  rw [List.take_succ_eq_append_getElem (by simpa using h), List.getElem_map, ga_eq h]

set_option maxRecDepth 100000 in
set_option maxHeartbeats 4000000 in
theorem mirrorOf_any (v : Value) (d : Dg) (w : World) (hd : IsDg w w.heap.size v d) : Calls Try.prog 31 #[v] w (DgPost (mirD d) w) := by
  obtain ⟨A, c, rfl, hc, hr⟩ := hd
  have hrm : d.crs.length * 40 ≤ 140737488355328 := hr.room
  have hr := Lib.hid hr
  go_enter Try.func31, Try.ntmps31
  go_wp2_with fail
  go_loopw [4] (fun i wr => ∃ (n : Nat) (s : Value) (ys : List Cr), n ≤ d.crs.length ∧ i = .int .i64 n ∧ ys.length = n ∧ Hid (ys = (d.crs.map mirC).take n) ∧ Kp w wr ∧ Blk wr w.heap.size 27 #[.slice A d.crs.length c, .int .i64 d.loops] ∧
    Blk wr (w.heap.size + 1) 27 #[.slice none 0 0, .int .i64 0] ∧ Blk wr (w.heap.size + 1 + 1) 27 #[s, .int .i64 d.loops] ∧ Ow codCr 73 wr (w.heap.size + 3) s ys) (fun i _ => d.crs.length - (intOf i).toNat)
  case atStart => exact ⟨0, _, [], Nat.zero_le _, rfl, rfl, rfl, (((Kp.refl _).alloc _).alloc _).alloc _, ((Blk.new _ _ _).alloc _).alloc _, (Blk.new' _ _ _ (by simp)).alloc _, Blk.new' _ _ _ (by simp), Ow.nil_⟩
  case round =>
    obtain ⟨n, s, ys, hn, rfl, hyl, hys, hk, b1, b2, b3, ho⟩ := hrel
    subst hyl
    obtain ⟨x0, x1, x2, x3⟩ := b1.two
    obtain ⟨y0, y1, y2, y3⟩ := b2.two
    obtain ⟨z0, z1, z2, z3⟩ := b3.two
    have hz := b3.lt
    obtain ⟨A6, c6, rfl, hc6⟩ := ho.sl
    by_cases hlt : ys.length < d.crs.length
    · obtain ⟨b, off, rfl, hb, c0, c1, c2, c3, c4⟩ := crAt (hr.out.kp hk) hlt
      have hmt := Lib.hid (map_take_cr mirC d.crs ys.length hlt)
      generalize Go.Proofs.Ytlbpgnimpcflaaa.ga d.crs ys.length = cr at *
      obtain ⟨e0, e1, e2, e3, e4⟩ := cr
      dsimp only at *
      obtain ⟨l0, l1, l2, l3, l4⟩ := lts hb
      have hlo : w.heap.size + 1 + 1 < wr.heap.size := hz
      have k1 : ∀ o, Kp wr (wr.alloc o) := fun o => (Kp.refl _).alloc o
      have hbs : Hid (w.heap.size + 3 ≤ wr.heap.size) := hz
      cases e4
      · go_wp2_with (at_builtin; refine push_of (C := codCr) (y := ⟨e1, e2, e3, e0, true⟩) slCr rfl _ _ rfl (ho.kp (k1 _)) rfl rfl (by simp) rfl (cr_one1 _) (by show (_ + 1) * 40 ≤ _; omega) (by have := hbs.out; simp; omega) ?_; intro v' w3 hv3 hg3 _; obtain ⟨A7, c7, rfl, hc7⟩ := hv3.sl; obtain ⟨z0', z1', z2', z3'⟩ := ((b3.alloc _).gr hg3 (fun e => by have := (ho.lt (w.heap.size + 1 + 1) e.symm).1; omega)).two)
        go_roundw
        case rel => exact ⟨ys.length + 1, .slice A7 (ys.length + 1) c7, ys ++ [⟨e1, e2, e3, e0, true⟩], by omega, by go_num, by simp, by rw [Hid, hmt.out, ← hys.out]; rfl, ((hk.alloc _).grown hg3 (fun k e => by have := (ho.lt k e).1; omega)).setCell (p := ⟨w.heap.size + 1 + 1, 0, none⟩) (by simp; omega) _,
          ((b1.alloc _).gr hg3 (fun e => by have := (ho.lt w.heap.size e.symm).1; omega)).far (p := ⟨w.heap.size + 1 + 1, 0, none⟩) (by simp; omega) _, ((b2.alloc _).gr hg3 (fun e => by have := (ho.lt (w.heap.size + 1) e.symm).1; omega)).far (p := ⟨w.heap.size + 1 + 1, 0, none⟩) (by simp) _,
          by simpa using ((b3.alloc _).gr hg3 (fun e => by have := (ho.lt (w.heap.size + 1 + 1) e.symm).1; omega)).set_ 0 (.slice A7 (ys.length + 1) c7), by simpa using hv3.setLow (p := ⟨w.heap.size + 1 + 1, 0, none⟩) (by simp) (.slice A7 (ys.length + 1) c7)⟩
        case measure => simp [intOf] <;> omega
      · go_wp2_with (at_builtin; refine push_of (C := codCr) (y := ⟨e3, e0, e1, e2, false⟩) slCr rfl _ _ rfl (ho.kp (k1 _)) rfl rfl (by simp) rfl (cr_one1 _) (by show (_ + 1) * 40 ≤ _; omega) (by have := hbs.out; simp; omega) ?_; intro v' w3 hv3 hg3 _; obtain ⟨A7, c7, rfl, hc7⟩ := hv3.sl; obtain ⟨z0', z1', z2', z3'⟩ := ((b3.alloc _).gr hg3 (fun e => by have := (ho.lt (w.heap.size + 1 + 1) e.symm).1; omega)).two)
        go_roundw
        case rel => exact ⟨ys.length + 1, .slice A7 (ys.length + 1) c7, ys ++ [⟨e3, e0, e1, e2, false⟩], by omega, by go_num, by simp, by rw [Hid, hmt.out, ← hys.out]; rfl, ((hk.alloc _).grown hg3 (fun k e => by have := (ho.lt k e).1; omega)).setCell (p := ⟨w.heap.size + 1 + 1, 0, none⟩) (by simp; omega) _,
          ((b1.alloc _).gr hg3 (fun e => by have := (ho.lt w.heap.size e.symm).1; omega)).far (p := ⟨w.heap.size + 1 + 1, 0, none⟩) (by simp; omega) _, ((b2.alloc _).gr hg3 (fun e => by have := (ho.lt (w.heap.size + 1) e.symm).1; omega)).far (p := ⟨w.heap.size + 1 + 1, 0, none⟩) (by simp) _,
          by simpa using ((b3.alloc _).gr hg3 (fun e => by have := (ho.lt (w.heap.size + 1 + 1) e.symm).1; omega)).set_ 0 (.slice A7 (ys.length + 1) c7), by simpa using hv3.setLow (p := ⟨w.heap.size + 1 + 1, 0, none⟩) (by simp) (.slice A7 (ys.length + 1) c7)⟩
        case measure => simp [intOf] <;> omega
    · have hye : ys = d.crs.map mirC := by have := hys.out; rwa [show ys.length = (d.crs.map mirC).length by simp; omega, List.take_length] at this
      have hle : ys.length = d.crs.length := by omega
      have hM : Ow codCr 73 wr (w.heap.size + 3) (.slice A6 d.crs.length c6) (mirD d).crs := by have h := ho; rw [hle, hye] at h; exact h
      have hM := Lib.hid hM
      rw [hle] at z0 b3
      clear hye hys ho
      go_wp2_with fail
      refine bodyPost_ret (v := .agg #[.slice A6 d.crs.length c6, .int .i64 d.loops]) (by simp [results, Try.results31, go_sem, *]) rfl ?_
      have h1 := (hM.out.setLow (p := ⟨w.heap.size + 1, 0, none⟩) (by simp) (.slice A6 d.crs.length c6)).setLow (p := ⟨w.heap.size + 1, 1, none⟩) (by simp) (.int .i64 d.loops)
      have hl : (mirD d).crs.length = d.crs.length := by simp [mirD]
      have h2 := h1.rv (by show _ * 40 ≤ _; rw [hl]; exact hrm)
      exact ⟨_, rfl, IsDg.of_rv (d := mirD d) h2, (hk.setCell (p := ⟨w.heap.size + 1, 0, none⟩) (by simp) _).setCell (p := ⟨w.heap.size + 1, 1, none⟩) (by simp) _⟩
end Go.Proofs.Ytlbpgnimpcflaaa
