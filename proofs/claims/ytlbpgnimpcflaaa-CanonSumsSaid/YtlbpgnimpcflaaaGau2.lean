/- Strands and Gauss codes of a diagram: the program's. -/
import Derived.Test.YtlbpgnimpcflaaaGau1
namespace Go.Proofs.Ytlbpgnimpcflaaa
open Go.ChangeShapes Go.WideShapes Go.ChangeAt Go.RowKit

theorem may_arcs {d : Dg} (h : mayB d = true) : d.crs.length ≤ 16 ∧ arcsB d = true := by
  rw [mayB_arcs, Bool.and_eq_true, decide_eq_true_iff] at h
  exact ⟨h.1.1, h.2⟩
def StrPost (b : Bool) (xss : List (List Int)) (w : World) (e : Ending) (w' : World) : Prop :=
  (b = false ∧ e = .returned (.tuple #[.slice none 0 0, .int .i64 7]) ∧ Kp w w') ∨ (b = true ∧ ∃ v, e = .returned (.tuple #[v, .int .i64 0]) ∧ IntsR w' w'.heap.size v xss ∧ Kp w w')

set_option maxRecDepth 100000 in
set_option maxHeartbeats 2000000 in
theorem gstrands_any (v : Value) (d : Dg) (w : World) (hd : IsDg w w.heap.size v d) : Calls Try.prog 19 #[v] w (StrPost (mayB d) (strandsL d) w) := by
  obtain ⟨A, cap, rfl, hcap, hr⟩ := hd
  have hb := Lib.hid fun w' (hk : Kp w w') => new_any (.agg #[.slice A d.crs.length cap, .int .i64 d.loops]) d w' ⟨A, cap, rfl, hcap, hr.kp hk⟩
  have hm := Lib.hid (may_arcs (d := d))
  clear hr
  generalize mayB d = b at *
  go_enter Try.func19, Try.ntmps19
  go_wp2_with fail
  refine (hb.out _ ((Kp.refl _).alloc _)).mono ?_
  rintro e w1 (⟨hb0, rfl, hk⟩ | ⟨hb1, v, rfl, hk, hs⟩)
  · have hb0' := Lib.hid hb0
    clear hb0
    go_wp2_with fail
    go_ret2
    exact .inl ⟨hb0'.out, rfl, hk.al⟩
  · obtain ⟨hn, ha⟩ := hm.out hb1
    have hst := Lib.hid fun w' (hk : Kp w1 w') => strands_any v d w' _ (hs.kp hk) hn ha
    have hb1' := Lib.hid hb1
    clear hb1 ha hn hs
    go_wp2_with fail
    refine (hst.out _ (Kp.refl _)).mono ?_; rintro e w2 ⟨v', rfl, hi, hk2⟩
    go_wp2_with fail
    go_ret2
    exact .inr ⟨hb1'.out, v', rfl, hi, hk.al.trans hk2⟩

theorem results_tmp3' {fn : Func} {t u v : Tmp} (h : fn.results = #[.tmp t, .tmp u, .tmp v]) (tmps : Array Value) (P : Program) (w : World) :
    (results fn tmps).run P w = .ok (.tuple #[tmps.getD t undef, tmps.getD u undef, tmps.getD v undef]) w := by simp [results, h]

def sidesL (d : Dg) : List Bool := d.crs.map Cr.plus
def GauPost (b : Bool) (d : Dg) (w : World) (e : Ending) (w' : World) : Prop :=
  (b = false ∧ e = .returned (.tuple #[.slice none 0 0, .slice none 0 0, .int .i64 7]) ∧ Kp w w') ∨ (b = true ∧ ∃ u v, e = .returned (.tuple #[u, v, .int .i64 0]) ∧ RvR codVi w' w'.heap.size u (visL d) ∧ Rv codB w' w'.heap.size v (sidesL d) ∧ Kp w w')
theorem sides_take {d : Dg} {m : Nat} (h : m < d.crs.length) : (sidesL d).take (m + 1) = (sidesL d).take m ++ [(ga d.crs m).plus] := by
  unfold sidesL
  rw [List.take_succ_eq_append_getElem (by simpa using h), List.getElem_map, ga_eq h]
theorem codB_one (y : Bool) : ∀ u ∈ codB.f y, u.oneCell' = true := by
  intro u hu; simp [codB] at hu; subst hu; rfl

set_option maxRecDepth 100000 in
set_option maxHeartbeats 4000000 in
theorem ggauss_any (v : Value) (d : Dg) (w : World) (hd : IsDg w w.heap.size v d) : Calls Try.prog 20 #[v] w (GauPost (mayB d) d w) := by
  obtain ⟨A, cap, rfl, hcap, hr⟩ := hd
  have hb := Lib.hid fun w' (hk : Kp w w') => new_any (.agg #[.slice A d.crs.length cap, .int .i64 d.loops]) d w' ⟨A, cap, rfl, hcap, hr.kp hk⟩
  have hm := Lib.hid (may_arcs (d := d))
  clear hr
  generalize mayB d = b at *
  go_enter Try.func20, Try.ntmps20
  go_wp2_with fail
  refine (hb.out _ ((Kp.refl _).alloc _)).mono ?_
  rintro e w1 (⟨hb0, rfl, hk⟩ | ⟨hb1, v, rfl, hk, hs⟩)
  · have hb0' := Lib.hid hb0
    clear hb0
    go_wp2_with fail
    refine bodyPost_ret (results_tmp3' rfl _ _ _) rfl ?_
    exact .inl ⟨hb0'.out, rfl, hk.al⟩
  · obtain ⟨hn, ha⟩ := hm.out hb1
    have hvi := Lib.hid fun w' (hk : Kp w1 w') => visits_any v d w' _ (hs.kp hk) hn ha
    have hb1' := Lib.hid hb1
    obtain ⟨g, A5, cp5, gi5, go5, rfl, lg, lgi, lgo, s0, s1, s2, s3, hrd, _, _⟩ := hs.look hn
    clear hb1 ha hs
    have htl := Lib.hid (show (sidesL d).length = d.crs.length by simp [sidesL])
    have hrd' := Lib.hid hrd
    clear hrd
    go_wp2_with fail
    go_loopw [7, 23] (fun o i wr => ∃ (m : Nat) (ys : List Bool), m ≤ d.crs.length ∧ i = .int .i64 m ∧ ys.length = m ∧ Kp w1 wr ∧ Hid (ys = (sidesL d).take m) ∧ Ow codB 4 wr w1.heap.size o ys) (fun _ i _ => d.crs.length - (intOf i).toNat)
    case atStart => exact ⟨0, [], Nat.zero_le _, rfl, rfl, Kp.refl _, rfl, Ow.nil_⟩
    case round =>
      obtain ⟨m, ys, hml, rfl, hyl, hk2, hys, ho⟩ := hrel
      by_cases hlt : m < d.crs.length
      · obtain ⟨b4, off4, rfl, hb4, c0, c1, c2, c3, c4⟩ := crAt (hrd'.out.below hk2.below) hlt
        have hst := Lib.hid (sides_take hlt)
        generalize (Go.Proofs.Ytlbpgnimpcflaaa.ga d.crs m) = cr at *
        obtain ⟨a0, a1, a2, a3, a4⟩ := cr
        dsimp only at *
        obtain ⟨A6, c6, rfl, hc6⟩ := ho.sl
        have hz := hk2.size
        obtain ⟨l0, l1', l2, l3, l4⟩ := lts hb4
        go_wp2_with (at_builtin; refine push_of (C := codB) (y := a4) slBool rfl _ _ rfl (ho.kp ((Kp.refl _).alloc _)) rfl rfl (by simp) rfl (codB_one _) (by show (_ + 1) * 1 ≤ _; omega) (by simp; omega) ?_; intro v' w3 hv3 hg3 _)
        have hg3 : Gr wr w3 (Value.slice A6 ys.length c6).ownBlock := gr_trans (gr_of_kp ((Kp.refl _).alloc _) _) hg3
        go_roundw
        case rel => exact ⟨m + 1, _, by omega, by go_num, by simp [hyl], hk2.grown hg3 (fun k e => (ho.lt k e).1), by rw [Hid, hst.out, hys.out], hv3⟩
        case measure => simp [intOf] <;> omega
      · obtain rfl : m = d.crs.length := by omega
        have hye : ys = sidesL d := by have := hys.out; rwa [← htl.out, List.take_length] at this
        subst hye
        have hyl' := Lib.hid hyl
        clear hyl hys
        obtain ⟨A6, c6, rfl, hc6⟩ := ho.sl
        go_wp2_with fail
        refine (hvi.out _ hk2).mono ?_; rintro e w4 ⟨v4, rfl, hv4, hk4⟩
        go_wp2_with fail
        refine bodyPost_ret (results_tmp3' rfl _ _ _) rfl ?_
        exact .inr ⟨hb1'.out, _, _, rfl, hv4, (ho.kp hk4).rv (by show _ * 1 ≤ _; have := hyl'.out; omega), (hk.al.trans hk2).trans hk4⟩
end Go.Proofs.Ytlbpgnimpcflaaa
