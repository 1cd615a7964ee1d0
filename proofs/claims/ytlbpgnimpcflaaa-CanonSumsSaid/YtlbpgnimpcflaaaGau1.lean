/- Visits: the walk of the program's. -/
import Derived.Test.YtlbpgnimpcflaaaGau0
namespace Go.Proofs.Ytlbpgnimpcflaaa
open Go.ChangeShapes Go.WideShapes Go.ChangeAt Go.RowKit

theorem vi_one (x : Vi) : ∀ u ∈ codVi.f x, u.oneCell' = true := by
  intro u hu
  simp [codVi] at hu
  rcases hu with rfl | rfl <;> rfl
theorem codV_one {y : Value} (h : y.oneCell' = true) : ∀ u ∈ codV.f y, u.oneCell' = true := by
  intro u hu; simp [codV] at hu; subst hu; exact h

set_option maxRecDepth 100000 in
set_option maxHeartbeats 4000000 in
theorem visits_any (v : Value) (d : Dg) (w : World) (b0 : Nat) (hs : IsSh w b0 v d) (hn : d.crs.length ≤ 16) (ha : arcsB d = true) :
    Calls Try.prog 60 #[v] w (VissPost (visL d) w) := by
  have hst := Lib.hid fun w' (hk : Kp w w') => strands_any v d w' b0 (hs.kp hk) hn ha
  have hS := Lib.hid hs
  have hA := Lib.hid ha
  obtain ⟨hmem, hlen⟩ := strandsL_mem ha
  have hV : Hid (visL d = (strandsL d).map fun r => r.map (visA d)) := rfl
  obtain ⟨g, A, cp, gi', go', rfl, _, _, _, _⟩ := hs.look hn
  generalize strandsL d = xss at *
  have hmem := Lib.hid hmem
  clear hs ha
  go_enter Try.func60, Try.ntmps60
  go_wp2_with fail
  refine (hst.out _ (Kp.refl _)).mono ?_; rintro e w1 ⟨v1, rfl, ⟨vs, l1, ⟨A1, c1, rfl, hc1, hrd⟩, hin⟩, hk1⟩
  rw [l1]
  go_wp2_with fail
  go_loopw [3, 13] (fun o i wr => ∃ (n : Nat) (acc : List (List Vi)), n ≤ xss.length ∧ i = .int .i64 n ∧ acc.length = n ∧ Kp w1 wr ∧ Hid (acc = (xss.map fun r => r.map (visA d)).take n) ∧ OrG codVi 24 70 wr w1.heap.size o acc) (fun _ i _ => xss.length - (intOf i).toNat)
  case atStart => exact ⟨0, [], Nat.zero_le _, rfl, rfl, Kp.refl _, rfl, OrG.nil_⟩
  case round =>
    obtain ⟨n, acc, hn2, rfl, hal, hk, hacc, ho⟩ := hrel
    by_cases hlt : n < xss.length
    · obtain ⟨b, off, rfl, hb, hcell⟩ := vAt (hrd.kp hk) (i := n) (by omega)
      obtain ⟨A3, c3, hv3, hc3, hr3⟩ := hin n hlt
      rw [hv3] at hcell
      have hr3 := Lib.hid (hr3.below hk.below)
      have hmm := hmem.out (Go.Proofs.Ytlbpgnimpcflaaa.ga xss n) (ga_mem hlt)
      have hmt := Lib.hid (map_take (fun r : List Int => r.map (visA d)) xss n hlt)
      generalize Go.Proofs.Ytlbpgnimpcflaaa.ga xss n = r at *
      obtain ⟨hme, hml⟩ := hmm
      have hme' := Lib.hid hme
      clear hv3 hme
      obtain ⟨wo, rfl⟩ : ∃ wo : World, wo = wr := ⟨_, rfl⟩
      go_wp2_with fail
      go_loopw [6, 19] (fun o i wr => ∃ (m : Nat) (ys : List Vi), m ≤ r.length ∧ i = .int .i64 m ∧ ys.length = m ∧ Kp wo wr ∧ Hid (ys = (r.map (visA d)).take m) ∧ Ow codVi 70 wr wo.heap.size o ys) (fun _ i _ => r.length - (intOf i).toNat)
      case atStart => exact ⟨0, [], Nat.zero_le _, rfl, rfl, Kp.refl _, rfl, Ow.nil_⟩
      case round =>
        obtain ⟨m, ys, hm, rfl, hyl, hk2, hys, ho2⟩ := hrel
        by_cases hlt2 : m < r.length
        · obtain ⟨b4, off4, rfl, hb4, hc4⟩ := ((hr3.out.mono hk.size).below hk2.below).at_ hlt2
          have hrg := hme'.out (gi r m) (by rw [gi_eq hlt2]; exact List.getElem_mem hlt2)
          have hmt2 := Lib.hid (map_take_gi (visA d) r m hlt2)
          obtain ⟨a, ha⟩ := Int.eq_ofNat_of_zero_le (show 0 ≤ gi r m by omega)
          rw [ha] at hc4 hrg hmt2
          clear ha
          have hsh := hS.out.kp ((hk1.trans hk).trans hk2)
          obtain ⟨g2, A5, cp5, gi2, go2, hp, lg, lgi, lgo, s0, s1, s2, s3, _, hi2, _⟩ := hsh.look hn
          injection hp with hp
          injection hp with hp
          injection hp with hp
          subst hp
          obtain ⟨i0, i1⟩ := hi2.out a (by omega)
          obtain ⟨_, e2, e3, _, _⟩ := endOf_lt hA.out (a := a) (by omega) (by omega) false
          rw [e3] at i0 i1
          obtain ⟨A6, c6, rfl, hc6⟩ := ho2.sl
          have hz := hk2.size
          have hvis : Hid (visA d a = ⟨(endOf d a false).1, decide ((endOf d a false).2 ≠ 0)⟩) := rfl
          clear hi2 e3 hsh
          generalize endOf d (a : Int) false = p at *
          obtain ⟨p1, p2⟩ := p
          dsimp only at *
          have hd' : Hid (((((p2 : Nat) : Int) != 0) : Bool) = decide (p2 ≠ 0)) := by rw [Hid, Bool.eq_iff_iff, bne_iff_ne, decide_eq_true_iff]; omega
          obtain ⟨l0, l1', l2, l3, l4⟩ := lts hb4
          go_wp2_with (at_builtin; refine push_of (C := codVi) (y := ⟨((p1 : Nat) : Int), (((p2 : Nat) : Int) != 0)⟩) slVi rfl _ _ rfl (ho2.kp ((Kp.refl _).alloc _)) rfl rfl (by simp) rfl (vi_one _) (by show (_ + 1) * 16 ≤ _; omega) (by simp; omega) ?_; intro v' w3 hv3 hg3 _)
          have hg3 : Gr wr w3 (Value.slice A6 ys.length c6).ownBlock := gr_trans (gr_of_kp ((Kp.refl _).alloc _) _) hg3
          go_roundw
          case rel => exact ⟨m + 1, _, by omega, by go_num, by simp [hyl], hk2.grown hg3 (fun k e => (ho2.lt k e).1), by rw [Hid, hmt2.out, hys.out, hvis.out, hd'.out], hv3⟩
          case measure => simp [intOf] <;> omega
        · obtain rfl : m = r.length := by omega
          have hye : Hid (ys = r.map (visA d)) := by have := hys.out; rwa [← List.length_map (visA d), List.take_length] at this
          have hyn : ys.length ≤ 33 := by omega
          clear hys
          obtain ⟨A6, c6, rfl, hc6⟩ := ho2.sl
          have hyl' := Lib.hid hyl
          clear hyl
          have ho3 := ho.kp hk2
          obtain ⟨us, g1, g2, g3⟩ := ho3
          obtain ⟨A7, c7, rfl, hc7⟩ := g2.sl
          have hul : us.length ≤ 40 := by omega
          have g1' := Lib.hid g1
          have hb2 := ho2.base hk.size
          have hz := hk2.size
          have hz1 := hk.size
          have g3' := Lib.hid g3
          have hlen' := Lib.hid hlen
          have hal' := Lib.hid hal
          clear g3 g1 ho hal
          go_wp2_with (at_builtin; refine push_of (C := codV) (y := .slice A6 ys.length c6) slVis rfl _ _ rfl g2 rfl rfl rfl rfl (codV_one rfl) (by show (_ + 1) * 24 ≤ _; omega) (by omega) ?_; intro v' w3 hv3 hg3 _)
          go_roundw
          case rel => exact ⟨n + 1, acc ++ [ys], by omega, by go_num, by simp [hal'.out], (hk.trans hk2).grown hg3 (fun k e => (g2.lt k e).1), by rw [Hid, hmt.out, hacc.out, hye.out], OrG.push (by decide) g1'.out g2 g3'.out hb2 (by omega) hv3 hg3⟩
          case measure => simp [intOf] <;> omega
    · obtain rfl : n = xss.length := by omega
      have hae : acc = visL d := by rw [hV.out, hacc.out, ← List.length_map (fun r => List.map (visA d) r), List.take_length]
      subst hae
      have hal' := Lib.hid hal
      clear hal
      go_wp2_with fail
      go_ret
      exact ⟨_, rfl, ho.rvR (by have := hal'.out; omega) (by decide), hk1.trans hk⟩
end Go.Proofs.Ytlbpgnimpcflaaa
