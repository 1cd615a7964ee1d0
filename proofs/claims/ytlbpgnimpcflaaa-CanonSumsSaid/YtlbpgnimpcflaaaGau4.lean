/- Visits of a diagram: the reference's. -/
import Derived.Test.YtlbpgnimpcflaaaGau3
import Derived.Deep.RegionHeld3
namespace Go.Proofs.Ytlbpgnimpcflaaa
open Go.ChangeShapes Go.WideShapes Go.ChangeAt Go.RowKit

theorem cs2 {w : World} {p : Addr} {u x : Value} {g i : Nat} (hp : g ≠ p.block) (hc : w.cell? ⟨g, i, none⟩ = some x) : (w.setCell p u).cell? ⟨g, i, none⟩ = some x :=
  (World.cell?_setCell_other w p ⟨g, i, none⟩ u (fun e => by subst e; exact hp rfl)).trans hc
theorem ca {w : World} {o : Obj} {x : Value} {g i : Nat} (hc : w.cell? ⟨g, i, none⟩ = some x) : (w.alloc o).cell? ⟨g, i, none⟩ = some x := ((Kp.refl w).alloc o).c hc
theorem cd {w : World} {x : Value} {g i : Nat} (hc : w.cell? ⟨g, i, none⟩ = some x) : w.drew.cell? ⟨g, i, none⟩ = some x := (Kp.refl w).drew.c hc

def VisPost (d : Dg) (w : World) (e : Ending) (w' : World) : Prop := ∃ u v, e = .returned (.tuple #[u, v]) ∧ RvR codVi w' w'.heap.size u (visL d) ∧ Rv codB w' w'.heap.size v (sidesL d) ∧ Kp w w'

set_option maxRecDepth 100000 in
set_option maxHeartbeats 8000000 in
theorem visitsOf_any (v : Value) (d : Dg) (w : World) (hd : IsDg w w.heap.size v d) (hn : d.crs.length ≤ 16) (ha : arcsB d = true) :
    Calls Try.prog 23 #[v] w (VisPost d w) := by
  obtain ⟨A, cap, rfl, hcap, hr⟩ := hd
  have hst := Lib.hid fun w' (hk : Kp w w') => strandsOf_any (.agg #[.slice A d.crs.length cap, .int .i64 d.loops]) d w' ⟨A, cap, rfl, hcap, hr.kp hk⟩ hn ha
  have HE := Lib.hid fun (a : Nat) w' (hk : Kp w w') => endOf_any (.agg #[.slice A d.crs.length cap, .int .i64 d.loops]) d a false w' ⟨A, cap, rfl, hcap, hr.kp hk⟩
  have hA := Lib.hid ha
  have hrr := Lib.hid hr
  obtain ⟨hmem, hlen⟩ := strandsL_mem ha
  have hV : Hid (visL d = (strandsL d).map fun r => r.map (visA d)) := rfl
  have htl := Lib.hid (show (sidesL d).length = d.crs.length by simp [sidesL])
  generalize strandsL d = xss at *
  have hmem' := Lib.hid hmem
  clear hmem hr ha
  go_enter Try.func23, Try.ntmps23
  go_wp2_with fail
  refine (hst.out _ ((Kp.refl _).alloc _)).mono ?_; rintro e w1 ⟨v1, rfl, ⟨vs, l1, ⟨A1, c1, rfl, hc1, hrd⟩, hin⟩, hk1⟩
  rw [l1]
  have hx0 := Lib.hid ((Blk.new w 27 #[.slice A d.crs.length cap, .int .i64 d.loops]).kp hk1)
  have hin := Lib.hid hin
  have hrd := Lib.hid hrd
  have hk1' := Lib.hid hk1
  have l1' := Lib.hid l1
  rw [l1] at hc1
  clear hk1 l1 hst
  go_wp2_with fail
  go_loopw [5, 6] (fun o i wr => ∃ (n : Nat) (acc : List (List Vi)), n ≤ xss.length ∧ i = .int .i64 n ∧ acc.length = n ∧ Kp w1 wr ∧ Hid (acc = (xss.map fun r => r.map (visA d)).take n) ∧ OrG codVi 24 70 wr w1.heap.size o acc) (fun _ i _ => xss.length - (intOf i).toNat)
  case atStart => exact ⟨0, [], Nat.zero_le _, rfl, rfl, Kp.refl _, rfl, OrG.nil_⟩
  case round =>
    obtain ⟨n, acc, hn2, rfl, hal, hk, hacc, ho⟩ := hrel
    by_cases hlt : n < xss.length
    · obtain ⟨b, off, rfl, hb, hcell⟩ := vAt (hrd.out.kp hk) (i := n) (by have := l1'.out; omega)
      obtain ⟨A3, c3, hv3, hc3, hr3⟩ := hin.out n hlt
      rw [hv3] at hcell
      have hr3 := Lib.hid (hr3.below hk.below)
      have hmm := hmem'.out (Go.Proofs.Ytlbpgnimpcflaaa.ga xss n) (ga_mem hlt)
      have hmt := Lib.hid (map_take (fun r : List Int => r.map (visA d)) xss n hlt)
      generalize Go.Proofs.Ytlbpgnimpcflaaa.ga xss n = r at *
      obtain ⟨hme, hml⟩ := hmm
      have hme' := Lib.hid hme
      clear hv3 hme
      obtain ⟨wo, rfl⟩ : ∃ wo : World, wo = wr := ⟨_, rfl⟩
      go_wp2_with fail
      go_loopw [7, 8] (fun o i wr => ∃ (m : Nat) (ys : List Vi), m ≤ r.length ∧ i = .int .i64 m ∧ ys.length = m ∧ Kp wo wr ∧ Hid (ys = (r.map (visA d)).take m) ∧ Ow codVi 70 wr wo.heap.size o ys) (fun _ i _ => r.length - (intOf i).toNat)
      case atStart => exact ⟨0, [], Nat.zero_le _, rfl, rfl, Kp.refl _, rfl, Ow.nil_⟩
      case round =>
        obtain ⟨m, ys, hm, rfl, hyl, hk2, hys, ho2⟩ := hrel
        have hcell2 := hk2.c hcell
        have hz := hk2.size
        by_cases hlt2 : m < r.length
        · obtain ⟨b4, off4, rfl, hb4, hc4⟩ := ((hr3.out.mono hk.size).below hk2.below).at_ hlt2
          have hrg := hme'.out (gi r m) (by rw [gi_eq hlt2]; exact List.getElem_mem hlt2)
          have hmt2 := Lib.hid (map_take_gi (visA d) r m hlt2)
          obtain ⟨a, ha⟩ := Int.eq_ofNat_of_zero_le (show 0 ≤ gi r m by omega)
          rw [ha] at hc4 hrg hmt2
          clear ha
          obtain ⟨x0, x1, x2, x3⟩ := (hx0.out.kp (hk.trans hk2)).two
          have hodd := Lib.hid (end_odd hA.out (a := a) (by omega) (by omega))
          obtain ⟨_, e2, _, _, _⟩ := endOf_lt hA.out (a := a) (by omega) (by omega) false
          have hE := Lib.hid (HE.out a)
          have hvis : Hid (visA d a = ⟨(endOf d a false).1, decide ((endOf d a false).2 ≠ 0)⟩) := rfl
          have hkw : Kp w wr := hk1'.out.al.trans (hk.trans hk2)
          generalize endOf d (a : Int) false = p at *
          obtain ⟨p1, p2⟩ := p
          dsimp only at *
          obtain ⟨l0, l1', l2, l3, l4⟩ := lts hb4
          obtain ⟨A6, c6, rfl, hc6⟩ := ho2.sl
          subst hyl
          have lw := (hx0.out.kp (hk.trans hk2)).lt
          have lb : b < wr.heap.size := by omega
          have lb4 : b4 < wr.heap.size := by omega
          go_wp2_with fail
          go_region_held3 (fun W => W.cell? ⟨w.heap.size, 0, none⟩ = some (.slice A d.crs.length cap) ∧ W.cell? ⟨w.heap.size, 1, none⟩ = some (.int .i64 d.loops) ∧ W.cell? ⟨b, off + n, none⟩ = some (.slice (some ⟨b4, off4, none⟩) r.length c3) ∧ W.cell? ⟨b4, off4 + ys.length, none⟩ = some (.int .i64 a)) (first | go_keep | (refine ⟨?_, ?_, ?_, ?_⟩ <;> repeat' (first | assumption | refine cs2 ?_ ?_ | refine ca ?_ | refine cd ?_ | (simp; done) | (simp; omega) | omega)))
            ((go_at_call 61; refine (hE.out _ (by repeat (with_reducible (first | exact hkw | refine Kp.alloc ?_ _ | refine Kp.drew ?_ | refine Kp.drewN ?_ _)))).mono ?_; rintro e w4 ⟨rfl, hk4⟩; dsimp only [spotV]; obtain ⟨cc, cf⟩ := hk4.cf rfl; have hq : Kp wr w4 := Kp.trans (by repeat (with_reducible (first | exact Kp.refl _ | refine Kp.alloc ?_ _ | refine Kp.drew ?_ | refine Kp.drewN ?_ _))) hk4; have hqs := hq.size; have q0 := hq.c x0; have q1 := hq.c x1; have q2 := hq.c hcell2; have q3 := hq.c hc4))
          · have hkW : Kp wr (w4.alloc (.cells #[Value.int IntKind.i64 p1, Value.int IntKind.i64 p2] 88)) := hq.alloc _
            clear cc cf hk4
            go_wp2_with (at_builtin; refine push_of (C := codVi) (y := ⟨((p1 : Nat) : Int), (((p2 : Nat) : Int) % 2 == 1)⟩) slVi rfl _ _ rfl (ho2.kp hkW) rfl rfl (by simp) rfl (vi_one _) (by show (_ + 1) * 16 ≤ _; omega) (by simp; omega) ?_; intro v' w3 hv3 hg3 _)
            have hg3 : Gr wr w3 (Value.slice A6 ys.length c6).ownBlock := gr_trans (gr_of_kp hkW _) hg3
            go_roundw
            case rel => exact ⟨ys.length + 1, _, by omega, by go_num, by simp, hk2.grown hg3 (fun k e => (ho2.lt k e).1), by rw [Hid, hmt2.out, hvis.out, hodd.out, ← hys.out], hv3⟩
            case measure => simp [intOf] <;> omega
          · have hkW : Kp wr ((w4.setCell ⟨wr.heap.size, 0, none⟩ (Value.int IntKind.i64 p1)).setCell ⟨wr.heap.size, 1, none⟩ (Value.int IntKind.i64 p2)) := (hq.setCell (p := ⟨wr.heap.size, 0, none⟩) (by simp) _).setCell (p := ⟨wr.heap.size, 1, none⟩) (by simp) _
            go_wp2_with (at_builtin; refine push_of (C := codVi) (y := ⟨((p1 : Nat) : Int), (((p2 : Nat) : Int) % 2 == 1)⟩) slVi rfl _ _ rfl (ho2.kp hkW) rfl rfl (by simp) rfl (vi_one _) (by show (_ + 1) * 16 ≤ _; omega) (by simp; omega) ?_; intro v' w3 hv3 hg3 _)
            have hg3 : Gr wr w3 (Value.slice A6 ys.length c6).ownBlock := gr_trans (gr_of_kp hkW _) hg3
            go_roundw
            case rel => exact ⟨ys.length + 1, _, by omega, by go_num, by simp, hk2.grown hg3 (fun k e => (ho2.lt k e).1), by rw [Hid, hmt2.out, hvis.out, hodd.out, ← hys.out], hv3⟩
            case measure => simp [intOf] <;> omega
        · obtain rfl : m = r.length := by omega
          have hye : Hid (ys = r.map (visA d)) := by have := hys.out; rwa [← List.length_map (visA d), List.take_length] at this
          have hyn : ys.length ≤ 33 := by omega
          clear hys
          obtain ⟨A6, c6, rfl, hc6⟩ := ho2.sl
          have hyl' := Lib.hid hyl
          clear hyl
          have ho3 := ho.kp hk2
          obtain ⟨us, g1, g2, g3⟩ := ho3
          obtain ⟨A7, c7, rfl, hc7⟩ := g2.sl
          have hul : us.length ≤ 40 := by omega
          have g1' := Lib.hid g1
          have hb2 := ho2.base hk.size
          have hz1 := hk.size
          have g3' := Lib.hid g3
          have hlen' := Lib.hid hlen
          have hal' := Lib.hid hal
          clear g3 g1 ho hal
          go_wp2_with (at_builtin; refine push_of (C := codV) (y := .slice A6 ys.length c6) slVis rfl _ _ rfl g2 rfl rfl rfl rfl (codV_one rfl) (by show (_ + 1) * 24 ≤ _; omega) (by omega) ?_; intro v' w3 hv3 hg3 _)
          go_roundw
          case rel => exact ⟨n + 1, acc ++ [ys], by omega, by go_num, by simp [hal'.out], (hk.trans hk2).grown hg3 (fun k e => (g2.lt k e).1), by rw [Hid, hmt.out, hacc.out, hye.out], OrG.push (by decide) g1'.out g2 g3'.out hb2 (by omega) hv3 hg3⟩
          case measure => simp [intOf] <;> omega
    · obtain rfl : n = xss.length := by omega
      have hae : acc = visL d := by rw [hV.out, hacc.out, ← List.length_map (fun r => List.map (visA d) r), List.take_length]
      subst hae
      have hal' := Lib.hid hal
      have ho' := Lib.hid ho
      have hn' := Lib.hid hlen
      clear hal hacc ho hlen
      obtain ⟨wq, rfl⟩ : ∃ wq : World, wq = wr := ⟨_, rfl⟩
      go_wp2_with fail
      go_loopw [10, 11] (fun o i wr => ∃ (m : Nat) (ys : List Bool), m ≤ d.crs.length ∧ i = .int .i64 m ∧ ys.length = m ∧ Kp wq wr ∧ Hid (ys = (sidesL d).take m) ∧ Ow codB 4 wr wq.heap.size o ys) (fun _ i _ => d.crs.length - (intOf i).toNat)
      case atStart => exact ⟨0, [], Nat.zero_le _, rfl, rfl, Kp.refl _, rfl, Ow.nil_⟩
      case round =>
        obtain ⟨m, ys, hml, rfl, hyl, hk2, hys, ho⟩ := hrel
        subst hyl
        obtain ⟨x0, x1, x2, x3⟩ := (hx0.out.kp (hk.trans hk2)).two
        by_cases hlt : ys.length < d.crs.length
        · obtain ⟨b4, off4, rfl, hb4, c0, c1, c2, c3, c4⟩ := crAt (hrr.out.kp (hk1'.out.al.trans (hk.trans hk2))) hlt
          have hst := Lib.hid (sides_take hlt)
          generalize (Go.Proofs.Ytlbpgnimpcflaaa.ga d.crs ys.length) = cr at *
          obtain ⟨a0, a1, a2, a3, a4⟩ := cr
          dsimp only at *
          obtain ⟨A6, c6, rfl, hc6⟩ := ho.sl
          have hz := hk2.size
          obtain ⟨l0, l1', l2, l3, l4⟩ := lts hb4
          go_wp2_with (at_builtin; refine push_of (C := codB) (y := a4) slBool rfl _ _ rfl ho rfl rfl rfl rfl (codB_one _) (by show (_ + 1) * 1 ≤ _; omega) (by omega) ?_; intro v' w3 hv3 hg3 _)
          go_roundw
          case rel => exact ⟨ys.length + 1, _, by omega, by go_num, by simp, hk2.grown hg3 (fun k e => (ho.lt k e).1), by rw [Hid, hst.out, ← hys.out], hv3⟩
          case measure => simp [intOf] <;> omega
        · have hye : ys = sidesL d := by have := hys.out; rwa [show ys.length = (sidesL d).length by have := htl.out; omega, List.take_length] at this
          subst hye
          have htl2 := htl.out
          clear hys
          obtain ⟨A6, c6, rfl, hc6⟩ := ho.sl
          go_wp2_with fail
          go_ret2
          exact ⟨_, _, rfl, (ho'.out.kp hk2).rvR (by have := hn'.out; have := hal'.out; omega) (by decide), ho.rv (by show _ * 1 ≤ _; omega), hk1'.out.al.trans (hk.trans hk2)⟩
end Go.Proofs.Ytlbpgnimpcflaaa
