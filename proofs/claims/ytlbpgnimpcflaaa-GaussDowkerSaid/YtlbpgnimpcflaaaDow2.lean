/- Dowker's code: the reference's. -/
import Derived.Test.YtlbpgnimpcflaaaDow1
namespace Go.Proofs.Ytlbpgnimpcflaaa
open Go.ChangeShapes Go.WideShapes Go.ChangeAt Go.RowKit

def DofPost (c : List Int × Int) (w : World) (e : Ending) (w' : World) : Prop := ∃ v, e = .returned (.tuple #[v, .int .i64 c.2]) ∧ Ints w' w'.heap.size v c.1 ∧ Kp w w'
def bad (v : List Vi) (i k : Nat) : Prop := k ≠ i ∧ (ga v k).c = (ga v i).c ∧ ((k : Int) - i).tmod 2 = 0
theorem dowRow_succ (v : List Vi) (j e : Nat) : dowRow v j (e + 1) = dowRow v j e ++ (if (ga v (2 * e + 1)).c = (ga v (2 * j)).c then [if (ga v (2 * e + 1)).o = true then -(2 * (e : Int) + 2) else 2 * (e : Int) + 2] else []) := rfl
theorem dowRow_len (v : List Vi) (j e : Nat) : (dowRow v j e).length ≤ e := by
  induction e with
  | zero => simp [dowRow]
  | succ e ih => unfold dowRow; rw [List.length_append]; split <;> simp <;> omega
theorem dowR_len (v : List Vi) (N j : Nat) : (dowR v N j).length ≤ j * N := by
  induction j with
  | zero => simp [dowR]
  | succ j ih => unfold dowR; rw [List.length_append, Nat.succ_mul]; have := dowRow_len v j N; omega

set_option maxRecDepth 100000 in
set_option maxHeartbeats 8000000 in
theorem dowkerOf_any (v : Value) (d : Dg) (w : World) (hd : IsDg w w.heap.size v d) (hn : d.crs.length ≤ 16) (ha : arcsB d = true) : Calls Try.prog 27 #[v] w (DofPost (dowC d) w) := by
  obtain ⟨A, cap, rfl, hcap, hr⟩ := hd
  have hb := Lib.hid fun w' (hk : Kp w w') => visitsOf_any (.agg #[.slice A d.crs.length cap, .int .i64 d.loops]) d w' ⟨A, cap, rfl, hcap, hr.kp hk⟩ hn ha
  replace ha := Lib.hid ha
  clear hr
  go_enter Try.func27, Try.ntmps27
  go_wp2_with fail
  refine (hb.out _ ((Kp.refl _).alloc _)).mono ?_
  rintro e w2 ⟨v2, v3, rfl, ⟨vs, l1, ⟨A2, c2, rfl, hc2, hrd⟩, hin⟩, ⟨A4, c4, rfl, hc4, hr4⟩, hk⟩
  have hx1 := Lib.hid ((Blk.new w 27 #[.slice A d.crs.length cap, .int .i64 d.loops]).kp hk)
  have hln : Hid ((visL d).length = (strandsL d).length) := by rw [Hid]; simp [visL]
  have hsl : (sidesL d).length = d.crs.length := by simp [sidesL]
  rw [hsl] at hc4 ⊢
  obtain ⟨x0, x1, x2, x3⟩ := hx1.out.two
  have hkw2 : Kp w w2 := hk.al
  clear hb hr4 hsl
  by_cases hl1 : vs.length = 1
  · by_cases hlo : d.loops ≤ 0
    · have hcond : Hid ((strandsL d).length = 1 ∧ d.loops ≤ 0) := ⟨by rw [← hln.out, ← l1]; exact hl1, hlo⟩
      obtain ⟨hV, hVe⟩ := dowV_two ha.out hcond.out.1
      obtain ⟨b5, off5, rfl, hb5, hcell⟩ := vAt hrd (i := 0) (by omega)
      have hcell : w2.cell? ⟨b5, off5, none⟩ = some (Go.Proofs.Ytlbpgnimpcflaaa.ga vs 0) := hcell
      obtain ⟨A3, c3, hv3, hc3, hr3⟩ := hin 0 (by omega)
      rw [hv3] at hcell
      have hvl : (ga (visL d) 0).length = 2 * d.crs.length := hV.len
      rw [hvl] at hcell hc3
      replace hr3 : Rd codVi w2 w2.heap.size A3 (dowV d) := hr3
      have hq1 : Hid ((dowV d).length = 2 * d.crs.length) := hV.len
      have t1 : (((vs.length : Int) != 1) : Bool) = false := by simp only [bne_eq_false_iff_eq]; omega
      have t2 : (decide (d.loops > 0)) = false := by simp; omega
      have hl0 : 0 < vs.length := by omega
      replace hr3 := Lib.hid hr3
      replace hV := Lib.hid hV
      clear hv3 hrd hin hVe l1 hl1 hlo hvl
      go_wp2_with fail
      go_loopw [8] (fun i wr => ∃ m : Nat, m ≤ 2 * d.crs.length ∧ i = .int .i64 m ∧ Kp w2 wr ∧ Hid (∀ i k, i < m → k < 2 * d.crs.length → ¬ bad (dowV d) i k)) (fun i _ => 2 * d.crs.length - (intOf i).toNat)
      case atStart => exact ⟨0, Nat.zero_le _, rfl, Kp.refl _, fun i k h => by omega⟩
      case round =>
        clear x0 x1 x2 x3 hcell
        obtain ⟨m, hm, rfl, hk3, hno⟩ := hrel
        by_cases hlt : m < 2 * d.crs.length
        · obtain ⟨wo, rfl⟩ : ∃ wo : World, wo = wr := ⟨_, rfl⟩
          obtain ⟨b6, off6, rfl, hb6, i0, _⟩ := viAt (hr3.out.kp hk3) (i := m) (by rw [hq1.out]; exact hlt)
          have tm : decide ((m : Int) < 2 * (d.crs.length : Int)) = true := by simp; omega
          go_wp2_with fail
          go_loopw [9] (fun i wr => ∃ k : Nat, k ≤ 2 * d.crs.length ∧ i = .int .i64 k ∧ Kp wo wr ∧ Hid (∀ k', k' < k → ¬ bad (dowV d) m k')) (fun i _ => 2 * d.crs.length - (intOf i).toNat)
          case atStart => exact ⟨0, Nat.zero_le _, rfl, Kp.refl _, fun k h => by omega⟩
          case round =>
            obtain ⟨k, hkk, rfl, hk4, hno2⟩ := hrel
            by_cases hlt2 : k < 2 * d.crs.length
            · obtain ⟨b7, off7, e7, hb7, j0, _⟩ := viAt (hr3.out.kp (hk3.trans hk4)) (i := k) (by rw [hq1.out]; exact hlt2)
              injection e7 with e7
              injection e7 with e7 e8
              subst e7
              subst e8
              have i0' := hk4.c i0
              clear i0
              have wu1 : IntKind.i64.wrap ((k : Int) - (m : Int)) = (k : Int) - (m : Int) := IntWalk.i64_in _ (by omega)
              have hbad : Hid (bad (dowV d) m k ↔ k ≠ m ∧ (Go.Proofs.Ytlbpgnimpcflaaa.ga (dowV d) k).c = (Go.Proofs.Ytlbpgnimpcflaaa.ga (dowV d) m).c ∧ ((k : Int) - m).tmod 2 = 0) := Iff.rfl
              generalize (Go.Proofs.Ytlbpgnimpcflaaa.ga (dowV d) k).c = y at *
              generalize (Go.Proofs.Ytlbpgnimpcflaaa.ga (dowV d) m).c = x at *
              have hnext : Hid (¬ bad (dowV d) m k → ∀ k', k' < k + 1 → ¬ bad (dowV d) m k') := fun h k' hk' => by
                rcases Nat.lt_or_ge k' k with h1 | h1
                · exact hno2.out k' h1
                · obtain rfl : k' = k := by omega
                  exact h
              by_cases h1 : k = m
              · have t3 : (((k : Int) != (m : Int)) : Bool) = false := by simp only [bne_eq_false_iff_eq]; omega
                have t3' : ((k != m) : Bool) = false := by simp only [bne_eq_false_iff_eq]; omega
                have hn2 := Lib.hid (hnext.out fun h => (hbad.out.1 h).1 h1)
                clear h1
                go_wp2_with fail
                go_quiet (fail)
                go_wp2_with fail
                go_roundw
                case rel => exact ⟨k + 1, by omega, by go_num, hk4.drewN _, hn2.out⟩
                case measure => simp [intOf] <;> omega
              · have t3 : (((k : Int) != (m : Int)) : Bool) = true := by simp only [bne_iff_ne, ne_eq]; omega
                have t3' : ((k != m) : Bool) = true := by simp only [bne_iff_ne, ne_eq]; omega
                by_cases h2 : y = x
                · have t4 : ((y == x) : Bool) = true := by rw [beq_iff_eq]; exact h2
                  by_cases h3 : ((k : Int) - m).tmod 2 = 0
                  · have t5 : ((((k : Int) - m).tmod 2 == 0) : Bool) = true := by rw [beq_iff_eq]; exact h3
                    have hcl : Hid (dowC d = ([], 5)) := dowC_plane hcond.out (dow_clash hV.out ⟨m, k, by rw [hV.out.len]; exact hlt, by rw [hV.out.len]; exact hlt2, hbad.out.2 ⟨h1, h2, h3⟩⟩)
                    clear h1 h2 h3
                    go_wp2_with fail
                    go_quiet (fail)
                    go_wp2_with fail
                    go_ret2
                    exact ⟨_, by rw [hcl.out]; rfl, by rw [hcl.out]; exact ⟨none, 0, rfl, Nat.le_refl _, IntsA.nil_⟩, (hkw2.trans (hk3.trans hk4)).drewN _⟩
                  · have t5 : ((((k : Int) - m).tmod 2 == 0) : Bool) = false := by rw [beq_eq_false_iff_ne]; exact h3
                    have hn2 := Lib.hid (hnext.out fun h => h3 (hbad.out.1 h).2.2)
                    clear h1 h2 h3
                    go_wp2_with fail
                    go_quiet (fail)
                    go_wp2_with fail
                    go_roundw
                    case rel => exact ⟨k + 1, by omega, by go_num, hk4.drewN _, hn2.out⟩
                    case measure => simp [intOf] <;> omega
                · have t4 : ((y == x) : Bool) = false := by rw [beq_eq_false_iff_ne]; exact h2
                  have hn2 := Lib.hid (hnext.out fun h => h2 (hbad.out.1 h).2.1)
                  clear h1 h2
                  go_wp2_with fail
                  go_quiet (fail)
                  go_wp2_with fail
                  go_roundw
                  case rel => exact ⟨k + 1, by omega, by go_num, hk4.drewN _, hn2.out⟩
                  case measure => simp [intOf] <;> omega
            · obtain rfl : k = 2 * d.crs.length := by omega
              go_wp2_with fail
              go_roundw
              case rel => exact ⟨m + 1, by omega, by go_num, hk3.trans hk4, fun i k h1 h2 => by
                rcases Nat.lt_or_ge i m with h3 | h3
                · exact hno.out i k h3 h2
                · obtain rfl : i = m := by omega
                  exact hno2.out k h2⟩
              case measure => simp [intOf] <;> omega
        · have hmq := Lib.hid (show m = 2 * d.crs.length by omega)
          have hres : Hid (dowC d = (dowR (dowV d) d.crs.length d.crs.length, 0)) := dowC_yes hcond.out (dow_fine hV.out fun ⟨i, k, h1, h2, h3⟩ => hno.out i k (by rw [hmq.out, ← hV.out.len]; exact h1) (by rw [← hV.out.len]; exact h2) h3).1
          have hNN : d.crs.length * d.crs.length ≤ 16 * 16 := Nat.mul_le_mul hn hn
          obtain ⟨wo, rfl⟩ : ∃ wo : World, wo = wr := ⟨_, rfl⟩
          go_wp2_with fail
          go_loopw [6, 10] (fun o i wr => ∃ j X : Nat, j ≤ d.crs.length ∧ i = .int .i64 X ∧ 1 ≤ X ∧ X ≤ 2 * d.crs.length + 1 ∧ Hid (X = 2 * j + 1) ∧ Kp wo wr ∧ OwnI wr wo.heap.size o (dowR (dowV d) d.crs.length j)) (fun _ i _ => 2 * d.crs.length + 1 - (intOf i).toNat)
          case atStart => exact ⟨0, 1, Nat.zero_le _, rfl, Nat.le_refl _, by omega, rfl, Kp.refl _, OwnI.nil_⟩
          case round =>
            obtain ⟨j, X, hj, rfl, hX1, hX2, hX, hk4, ho⟩ := hrel
            by_cases hlt2 : j < d.crs.length
            · have hX3 : X ≤ 2 * d.crs.length := by have := hX.out; omega
              have hRj := Lib.hid (show dowR (dowV d) d.crs.length (j + 1) = dowR (dowV d) d.crs.length j ++ dowRow (dowV d) j d.crs.length from rfl)
              obtain ⟨wp, rfl⟩ : ∃ wp : World, wp = wr := ⟨_, rfl⟩
              have Z0 : (dowR (dowV d) d.crs.length j).length ≤ j * d.crs.length := dowR_len _ _ _
              have Z1 : j * d.crs.length ≤ 15 * 16 := Nat.mul_le_mul (by omega) hn
              obtain ⟨bo, offo, rfl, hbo, io, _⟩ := viAt (hr3.out.kp (hk3.trans hk4)) (i := X - 1) (by have := hX.out; rw [hq1.out]; omega)
              generalize hR0 : dowR (dowV d) d.crs.length j = R0 at *
              replace hR0 := Lib.hid hR0
              have tX : decide ((X : Int) ≤ 2 * (d.crs.length : Int)) = true := by simp; omega
              go_wp2_with fail
              go_loopw [6, 11] (fun o i wr => ∃ e Y : Nat, e ≤ d.crs.length ∧ i = .int .i64 Y ∧ 2 ≤ Y ∧ Y ≤ 2 * d.crs.length + 2 ∧ Hid (Y = 2 * e + 2) ∧ Kp wo wr ∧ OwnI wr wo.heap.size o (R0 ++ dowRow (dowV d) j e)) (fun _ i _ => 2 * d.crs.length + 2 - (intOf i).toNat)
              case atStart => exact ⟨0, 2, Nat.zero_le _, rfl, Nat.le_refl _, by omega, rfl, hk4, by rw [show dowRow (dowV d) j 0 = [] from rfl, List.append_nil]; exact ho⟩
              case round =>
                clear ho
                obtain ⟨e, Y, he, rfl, hY1, hY2, hY, hk5, ho⟩ := hrel
                by_cases hlt3 : e < d.crs.length
                · have hY3 : Y ≤ 2 * d.crs.length := by have := hY.out; omega
                  obtain ⟨bp, offp, e7, hbp, ie, ie2⟩ := viAt (hr3.out.kp (hk3.trans hk5)) (i := Y - 1) (by have := hY.out; rw [hq1.out]; omega)
                  injection e7 with e7
                  injection e7 with e7 e8
                  subst e7
                  subst e8
                  obtain ⟨bq, offq, e7, _, io', _⟩ := viAt (hr3.out.kp (hk3.trans hk5)) (i := X - 1) (by have := hX.out; rw [hq1.out]; omega)
                  injection e7 with e7
                  injection e7 with e7 e8
                  subst e7
                  subst e8
                  have hs := Lib.hid (dowRow_succ (dowV d) j e)
                  have hvx : Hid (Go.Proofs.Ytlbpgnimpcflaaa.ga (dowV d) (2 * j) = Go.Proofs.Ytlbpgnimpcflaaa.ga (dowV d) (X - 1)) := by rw [Hid]; congr 1; have := hX.out; omega
                  have hvy : Hid (Go.Proofs.Ytlbpgnimpcflaaa.ga (dowV d) (2 * e + 1) = Go.Proofs.Ytlbpgnimpcflaaa.ga (dowV d) (Y - 1)) := by rw [Hid]; congr 1; have := hY.out; omega
                  have Z2 := dowRow_len (dowV d) j e
                  have Z3 : (R0 ++ dowRow (dowV d) j e).length = R0.length + (dowRow (dowV d) j e).length := List.length_append
                  have Z4 : (R0 ++ dowRow (dowV d) j e).length ≤ 256 := by omega
                  have wu1 : IntKind.i64.wrap ((X : Int) - 1) = (X : Int) - 1 := IntWalk.i64_in _ (by omega)
                  have wu2 : IntKind.i64.wrap ((Y : Int) - 1) = (Y : Int) - 1 := IntWalk.i64_in _ (by omega)
                  have wu3 : ((X : Int) - 1).toNat = X - 1 := by omega
                  have wu4 : ((Y : Int) - 1).toNat = Y - 1 := by omega
                  rw [hvx.out, hvy.out] at hs
                  generalize Go.Proofs.Ytlbpgnimpcflaaa.ga (dowV d) (X - 1) = x at *
                  generalize Go.Proofs.Ytlbpgnimpcflaaa.ga (dowV d) (Y - 1) = y at *
                  obtain ⟨yc, yo⟩ := y
                  obtain ⟨xc, xo⟩ := x
                  dsimp only at *
                  generalize dowRow (dowV d) j e = T0 at *
                  obtain ⟨L, hL⟩ : ∃ L, L = R0 ++ T0 := ⟨_, rfl⟩
                  rw [← hL] at ho Z4
                  obtain ⟨Ao, co, rfl, hco⟩ := ho.sl
                  clear Z2 Z3 io hvx hvy
                  replace hL := Lib.hid hL
                  by_cases h1 : yc = xc
                  · have t3 : ((yc == xc) : Bool) = true := by rw [beq_iff_eq]; exact h1
                    rw [if_pos h1] at hs
                    clear h1
                    cases yo
                    · rw [if_neg (by simp)] at hs
                      have hz : Hid (2 * (e : Int) + 2 = (Y : Int)) := by rw [Hid]; have := hY.out; omega
                      rw [hz.out] at hs
                      go_wp2_with fail
                      go_quiet (fail)
                      go_wp2_with (at_builtin; refine push_int rfl _ _ rfl (ho.drewN _) rfl rfl rfl (by omega) (by have := hk5.size; simp <;> omega) ?_; intro v' w3 ho3 hg3 _)
                      go_roundw
                      case rel => exact ⟨e + 1, Y + 2, by omega, by go_num, by omega, by omega, by rw [Hid]; have := hY.out; omega, (hk5.drewN _).grown hg3 (fun g e => by have := (ho.lt g e).1; omega), by rw [hs.out, ← List.append_assoc, ← hL.out]; exact ho3⟩
                      case measure => simp [intOf] <;> omega
                    · rw [if_pos rfl] at hs
                      have hz : Hid (2 * (e : Int) + 2 = (Y : Int)) := by rw [Hid]; have := hY.out; omega
                      rw [hz.out] at hs
                      go_wp2_with fail
                      go_quiet (fail)
                      go_wp2_with (at_builtin; refine push_int rfl _ _ rfl (ho.drewN _) rfl rfl rfl (by omega) (by have := hk5.size; simp <;> omega) ?_; intro v' w3 ho3 hg3 _)
                      go_roundw
                      case rel => exact ⟨e + 1, Y + 2, by omega, by go_num, by omega, by omega, by rw [Hid]; have := hY.out; omega, (hk5.drewN _).grown hg3 (fun g e => by have := (ho.lt g e).1; omega), by rw [hs.out, ← List.append_assoc, ← hL.out]; exact ho3⟩
                      case measure => simp [intOf] <;> omega
                  · have t3 : ((yc == xc) : Bool) = false := by rw [beq_eq_false_iff_ne]; exact h1
                    rw [if_neg h1, List.append_nil] at hs
                    clear h1
                    go_wp2_with fail
                    go_quiet (fail)
                    go_wp2_with fail
                    go_roundw
                    case rel => exact ⟨e + 1, Y + 2, by omega, by go_num, by omega, by omega, by rw [Hid]; have := hY.out; omega, hk5.drewN _, by rw [hs.out, ← hL.out]; exact ho⟩
                    case measure => simp [intOf] <;> omega
                · obtain rfl : e = d.crs.length := by omega
                  have hY3 : ¬ Y ≤ 2 * d.crs.length := by have := hY.out; omega
                  go_wp2_with fail
                  go_roundw
                  case rel => exact ⟨j + 1, X + 2, by omega, by go_num, by omega, by (have := hX.out; omega), by rw [Hid]; have := hX.out; omega, hk5, by rw [hRj.out]; exact ho⟩
                  case measure => simp [intOf] <;> omega
            · obtain rfl : j = d.crs.length := by omega
              have hX3 : ¬ X ≤ 2 * d.crs.length := by have := hX.out; omega
              obtain ⟨Ao, co, rfl, hco⟩ := ho.sl
              have hlen := dowR_len (dowV d) d.crs.length d.crs.length
              go_wp2_with fail
              go_ret2
              exact ⟨_, by rw [hres.out]; rfl, by rw [hres.out]; exact ho.ints (by omega), hkw2.trans (hk3.trans hk4)⟩
    · have t1 : (((vs.length : Int) != 1) : Bool) = false := by simp only [bne_eq_false_iff_eq]; omega
      have t2 : (decide (d.loops > 0)) = true := by simp; omega
      have hres := Lib.hid (dowC_no (d := d) fun h => hlo h.2)
      clear hlo hl1 l1 hrd hin
      go_wp2_with fail
      go_ret2
      exact ⟨_, by rw [hres.out]; rfl, by rw [hres.out]; exact ⟨none, 0, rfl, Nat.le_refl _, IntsA.nil_⟩, hkw2⟩
  · have t1 : (((vs.length : Int) != 1) : Bool) = true := by simp only [bne_iff_ne, ne_eq]; omega
    have hres := Lib.hid (dowC_no (d := d) fun h => hl1 (by rw [l1, hln.out]; exact h.1))
    clear hl1 l1 hrd hin
    go_wp2_with fail
    go_ret2
    exact ⟨_, by rw [hres.out]; rfl, by rw [hres.out]; exact ⟨none, 0, rfl, Nat.le_refl _, IntsA.nil_⟩, hkw2⟩
end Go.Proofs.Ytlbpgnimpcflaaa
