/- Mirror images: the program's walk. -/
import Derived.Test.YtlbpgnimpcflaaaTrn
import Derived.Test.YtlbpgnimpcflaaaDow1
namespace Go.Proofs.Ytlbpgnimpcflaaa
open Go.ChangeShapes Go.WideShapes Go.ChangeAt Go.RowKit

/-- The first n crossings are turned to others, in place. -/
def mxF (f : Cr → Cr) (xs : List Cr) : Nat → List Cr
  | 0 => xs
  | n + 1 => (mxF f xs n).set n (f (ga xs n))
theorem mxF_len (f : Cr → Cr) (xs : List Cr) (n : Nat) : (mxF f xs n).length = xs.length := by
  induction n with
  | zero => rfl
  | succ n ih => unfold mxF; rw [List.length_set, ih]
theorem mxF_at (f : Cr → Cr) (xs : List Cr) (n i : Nat) (hn : n ≤ xs.length) (hi : i < xs.length) : ga (mxF f xs n) i = if i < n then f (ga xs i) else ga xs i := by
  induction n with
  | zero => simp [mxF]
  | succ n ih =>
    unfold mxF
    rw [ga_set _ _ _ _ (by rw [mxF_len]; omega), ih (by omega)]
    by_cases h : n = i
    · subst h; simp
    · rw [if_neg h]
      by_cases h2 : i < n
      · rw [if_pos h2, if_pos (by omega)]
      · rw [if_neg h2, if_neg (by omega)]
theorem mxF_all (f : Cr → Cr) (xs : List Cr) : mxF f xs xs.length = xs.map f := by
  apply ga_ext (by rw [mxF_len]; simp)
  intro i hi
  rw [mxF_len] at hi
  rw [mxF_at f xs _ i (Nat.le_refl _) hi, if_pos hi, ga_map f xs i hi]

theorem Ow.cr5 {w : World} {base g n c : Nat} {xs : List Cr} (h : Ow codCr 73 w base (.slice (some ⟨g, 0, none⟩) n c) xs) {i : Nat} (hi : i < xs.length) (y : Cr) :
    Ow codCr 73 (((((w.setCell ⟨g, i * 5, none⟩ (.int .i64 y.a)).setCell ⟨g, i * 5 + 1, none⟩ (.int .i64 y.b)).setCell ⟨g, i * 5 + 2, none⟩ (.int .i64 y.c)).setCell ⟨g, i * 5 + 3, none⟩ (.int .i64 y.d)).setCell ⟨g, i * 5 + 4, none⟩ (.bool y.plus)) base (.slice (some ⟨g, 0, none⟩) n c) (xs.set i y) := by
  obtain ⟨ya, yb, yc, yd, yp⟩ := y
  have key : ∀ (ys : List Cr), ys.length = xs.length → ∀ x : Cr, ga (ys.set i x) i = x := fun ys hl x => by rw [ga_set _ _ _ _ (by omega), if_pos rfl]
  generalize hx : ga xs i = x at *
  obtain ⟨xa, xb, xc, xd, xp⟩ := x
  have h1 := h.set_ hi (j := 0) (by decide) (.int .i64 ya) ⟨ya, xb, xc, xd, xp⟩ (by rw [hx]; rfl)
  have h2 := h1.set_ (i := i) (by simpa using hi) (j := 1) (by decide) (.int .i64 yb) ⟨ya, yb, xc, xd, xp⟩ (by rw [key _ rfl]; rfl)
  have h3 := h2.set_ (i := i) (by simpa using hi) (j := 2) (by decide) (.int .i64 yc) ⟨ya, yb, yc, xd, xp⟩ (by rw [key _ (by simp)]; rfl)
  have h4 := h3.set_ (i := i) (by simpa using hi) (j := 3) (by decide) (.int .i64 yd) ⟨ya, yb, yc, yd, xp⟩ (by rw [key _ (by simp)]; rfl)
  have h5 := h4.set_ (i := i) (by simpa using hi) (j := 4) (by decide) (.bool yp) ⟨ya, yb, yc, yd, yp⟩ (by rw [key _ (by simp)]; rfl)
  simpa [codCr] using h5
theorem Ow.al {α : Type} {C : Cod α} {E : TypeId} {w : World} {base : Nat} {v : Value} {xs : List α} (h : Ow C E w base v xs) (o : Obj) : Ow C E (w.alloc o) base v xs := h.kp ((Kp.refl w).alloc o)
theorem Ow.far {α : Type} {C : Cod α} {E : TypeId} {w : World} {base : Nat} {A : Option Addr} {n c : Nat} {xs : List α} (h : Ow C E w base (.slice A n c) xs) {p : Addr} (hne : ∀ a, A = some a → a.block ≠ p.block) (u : Value) : Ow C E (w.setCell p u) base (.slice A n c) xs := by
  refine h.kept (gr_setp (gr_refl w (some p.block)) u) ?_
  rcases A with _ | a
  · exact .inl rfl
  · right
    simp only [Value.ownBlock]
    intro e
    injection e with e
    exact hne a rfl e
def CtPost (b : Bool) (c : Dg × Int) (w : World) (e : Ending) (w' : World) : Prop :=
  (b = false ∧ e = .returned (.tuple #[.agg #[.slice none 0 0, .int .i64 0], .int .i64 7]) ∧ Kp w w') ∨ (b = true ∧ ∃ v, e = .returned (.tuple #[v, .int .i64 c.2]) ∧ IsDg w' w'.heap.size v c.1 ∧ Kp w w')
theorem tur_mir (x : Cr) : (⟨(turC x (overIn x)).a, (turC x (overIn x)).b, (turC x (overIn x)).c, (turC x (overIn x)).d, !x.plus⟩ : Cr) = mirC x := by
  obtain ⟨a, b, c, d, p⟩ := x
  cases p <;> simp [turC, overIn, mirC, crArc]

set_option maxRecDepth 100000 in
set_option maxHeartbeats 8000000 in
theorem mirror_any (v : Value) (d : Dg) (w : World) (hd : IsDg w w.heap.size v d) : Calls Try.prog 28 #[v] w (CtPost (mayB d) (mirD d, 0) w) := by
  obtain ⟨A, cap, rfl, hcap, hr⟩ := hd
  have hb := Lib.hid fun w' (hk : Kp w w') => new_any (.agg #[.slice A d.crs.length cap, .int .i64 d.loops]) d w' ⟨A, cap, rfl, hcap, hr.kp hk⟩
  have hm := Lib.hid (may_arcs (d := d))
  clear hr
  generalize mayB d = b at *
  go_enter Try.func28, Try.ntmps28
  go_wp2_with fail
  refine (hb.out _ (((Kp.refl _).alloc _).alloc _)).mono ?_
  rintro e w1 (⟨hb0, rfl, hk⟩ | ⟨hb1, v, rfl, hk, hs⟩)
  · have hb0' := Lib.hid hb0
    obtain ⟨x0, x1, x2, x3⟩ := (Blk.kp (Blk.new' (w.alloc (.cells #[.slice A d.crs.length cap, .int .i64 d.loops] 27)) 27 #[.slice none 0 0, .int .i64 0] (n := w.heap.size + 1) (by simp)) hk).two
    clear hb0
    go_wp2_with fail
    refine bodyPost_ret (v := .tuple #[.agg #[.slice none 0 0, .int .i64 0], .int .i64 7]) (by simp [results, Try.results28, go_sem, *]) rfl ?_
    exact .inl ⟨hb0'.out, rfl, (by repeat (with_reducible (first | exact hk.al.al | refine Kp.alloc ?_ _ | refine Kp.drew ?_ | refine Kp.drewN ?_ _ | refine Kp.setCell ?_ (by first | assumption | (simp; done) | (simp; omega)) _)))⟩
  · obtain ⟨hn, ha⟩ := hm.out hb1
    have hrm : d.crs.length * 40 ≤ 140737488355328 := by omega
    obtain ⟨g, A2, c2, gi, go, rfl, hbg, _, r4, r5, -, -⟩ := hs
    have rb := (Blk.kp (Blk.new' (w.alloc (.cells #[.slice A d.crs.length cap, .int .i64 d.loops] 27)) 27 #[.slice none 0 0, .int .i64 0] (n := w.heap.size + 1) (by simp)) hk)
    have hkw : Kp w w1 := hk.al.al
    replace hbg : w.heap.size + 2 ≤ g := by simpa using hbg
    replace r5 : Ow codCr 73 w1 (w.heap.size + 2) (.slice A2 d.crs.length c2) d.crs := by simpa using r5
    obtain ⟨s0, s1, s2, s3⟩ := r4.four
    have hz := rb.lt
    replace hb1 := Lib.hid hb1
    clear hb hm ha hk
    go_wp2_with fail
    go_loopw [23] (fun i wr => ∃ n : Nat, n ≤ d.crs.length ∧ i = .int .i64 n ∧ Kp w wr ∧ Blk wr (w.heap.size + 1) 27 #[.slice none 0 0, .int .i64 0] ∧
      Blk wr g 81 #[.slice A2 d.crs.length c2, .int .i64 d.loops, .slice (some ⟨gi, 0, none⟩) (2 * d.crs.length + 1) (2 * d.crs.length + 1), .slice (some ⟨go, 0, none⟩) (2 * d.crs.length + 1) (2 * d.crs.length + 1)] ∧
      Ow codCr 73 wr (w.heap.size + 2) (.slice A2 d.crs.length c2) (mxF mirC d.crs n)) (fun i _ => d.crs.length - (intOf i).toNat)
    case atStart => exact ⟨0, Nat.zero_le _, rfl, hkw, rb, r4, r5⟩
    case round =>
      clear s0 s1 s2 s3 rb r4 r5 hkw hz
      obtain ⟨n, hn2, rfl, hkw, rb, r4, r5⟩ := hrel
      obtain ⟨s0, s1, s2, s3⟩ := r4.four
      have hz := rb.lt
      have hzg := r4.lt
      by_cases hlt : n < d.crs.length
      · have hl := mxF_len mirC d.crs n
        obtain ⟨p, cp, e, hp1, hp2, _⟩ := r5.form (by omega)
        injection e with e e2 e3
        subst e
        subst e3
        clear e2
        have hpg := r5.ne_blk r4 (by decide)
        replace hpg : p ≠ g := by simpa [Value.ownBlock] using hpg
        have hat := mxF_at mirC d.crs n n (by omega) hlt
        rw [if_neg (by omega)] at hat
        have hst : Hid (mxF mirC d.crs (n + 1) = (mxF mirC d.crs n).set n (mirC (Go.Proofs.Ytlbpgnimpcflaaa.ga d.crs n))) := rfl
        have c0 := r5.cell (i := n) (by omega) (j := 0) (by decide) rfl
        have c1 := r5.cell (i := n) (by omega) (j := 1) (by decide) rfl
        have c2' := r5.cell (i := n) (by omega) (j := 2) (by decide) rfl
        have c3 := r5.cell (i := n) (by omega) (j := 3) (by decide) rfl
        have c4 := r5.cell (i := n) (by omega) (j := 4) (by decide) rfl
        rw [hat] at c0 c1 c2' c3 c4
        have f0 := r5.free (n * 5)
        have f1 := r5.free (n * 5 + 1)
        have f2 := r5.free (n * 5 + 2)
        have f3 := r5.free (n * 5 + 3)
        have f4 := r5.free (n * 5 + 4)
        have htm := Lib.hid (tur_mir (Go.Proofs.Ytlbpgnimpcflaaa.ga d.crs n))
        generalize Go.Proofs.Ytlbpgnimpcflaaa.ga d.crs n = x at *
        have hlN : n < (mxF mirC d.crs n).length := by omega
        generalize mxF mirC d.crs n = X0 at *
        have hov := Lib.hid fun w' => overIn_any x w'
        have htu := Lib.hid fun w' => turned_any x (overIn x) w' (by unfold overIn; split <;> omega)
        simp only [codCr, Nat.add_zero] at c0 c1 c2' c3 c4
        unfold crV at hov htu
        generalize overIn x = ko at *
        generalize turC x ko = y at *
        obtain ⟨xa, xb, xc, xd, xp⟩ := x
        obtain ⟨ya, yb, yc, yd, yp⟩ := y
        dsimp only [crV] at *
        replace hl := Lib.hid hl
        replace hat := Lib.hid hat
        replace hlN := Lib.hid hlN
        obtain ⟨wo, rfl⟩ : ∃ wo : World, wo = wr := ⟨_, rfl⟩
        go_upto_region 7 with (fail)
        go_cut [8] (fun y wx => ∃ q, y = .pointer (some ⟨q, 0, none⟩) ∧ wo.heap.size < q ∧ Kp (wo.alloc (.cells #[.int .i64 xa, .int .i64 xb, .int .i64 xc, .int .i64 xd, .bool xp] 73)) wx ∧ Blk wx q 73 #[.int .i64 ya, .int .i64 yb, .int .i64 yc, .int .i64 yd, .bool yp])
        case first =>
          have B7 := Blk.new wo 73 #[.int .i64 xa, .int .i64 xb, .int .i64 xc, .int .i64 xd, .bool xp]
          have p0 := B7.cell 0 rfl
          have p1 := B7.cell 1 rfl
          have p2 := B7.cell 2 rfl
          have p3 := B7.cell 3 rfl
          have p4 := B7.cell 4 rfl
          have hself := Kp.refl (wo.alloc (.cells #[.int .i64 xa, .int .i64 xb, .int .i64 xc, .int .i64 xd, .bool xp] 73))
          have hsz : (wo.alloc (.cells #[.int .i64 xa, .int .i64 xb, .int .i64 xc, .int .i64 xd, .bool xp] 73)).heap.size = wo.heap.size + 1 := by simp
          generalize wo.alloc (.cells #[.int .i64 xa, .int .i64 xb, .int .i64 xc, .int .i64 xd, .bool xp] 73) = W0 at *
          replace hsz := Lib.hid hsz
          clear B7 c0 c1 c2' c3 c4 f0 f1 f2 f3 f4 s0 s1 s2 s3
          have P0 := Lib.hid fun w' (k : Kp W0 w') => And.intro (k.c p0) (And.intro (k.c p1) (And.intro (k.c p2) (And.intro (k.c p3) (k.c p4))))
          clear p0 p1 p2 p3 p4
          refine wp_region_rob (by kernel_rfl) ?_
          have K0 := hself.drew
          generalize W0.drew = V0 at *
          refine AnyR.take (i := 0) (v := ?v0_1) rfl (by kernel_rfl) (by kernel_rfl) (by kernel_rfl) rfl (fun _ _ _ h => h) (by simp) (by rfl) ?y0_1 ?r0_1
          case y0_1 => (intro w9 k9; (obtain ⟨p0, p1, p2, p3, p4⟩ := P0.out _ (K0.trans k9); go_wp2_with fail); refine ⟨rfl, rfl, ?_, by first | assumption | exact (by repeat (with_reducible (first | exact Kp.refl _ | refine Kp.alloc ?_ _ | refine Kp.drew ?_ | refine Kp.drewN ?_ _ | refine Kp.setCell ?_ (by first | assumption | (simp; done) | (simp; omega)) _)))⟩; simp only [Array.getD_eq_getD_getElem?, List.getElem?_toArray, List.getElem?_cons_succ, List.getElem?_cons_zero, Option.getD_some]; first | with_reducible rfl | rfl)
          intro V1 K1
          simp only [List.setIfInBounds_toArray, List.set_cons_succ, List.set_cons_zero]
          have KA := K0.trans K1
          refine AnyR.take (i := 1) (v := ?v1_2) rfl (by kernel_rfl) (by kernel_rfl) (by kernel_rfl) rfl (fun _ _ _ h => h) (by simp) (by rfl) ?y1_2 ?r1_2
          case y1_2 => (intro w9 k9; (obtain ⟨p0, p1, p2, p3, p4⟩ := P0.out _ (KA.trans k9); go_wp2_with fail); refine ⟨rfl, rfl, ?_, by first | assumption | exact (by repeat (with_reducible (first | exact Kp.refl _ | refine Kp.alloc ?_ _ | refine Kp.drew ?_ | refine Kp.drewN ?_ _ | refine Kp.setCell ?_ (by first | assumption | (simp; done) | (simp; omega)) _)))⟩; simp only [Array.getD_eq_getD_getElem?, List.getElem?_toArray, List.getElem?_cons_succ, List.getElem?_cons_zero, Option.getD_some]; first | with_reducible rfl | rfl)
          intro V2 K2
          simp only [List.setIfInBounds_toArray, List.set_cons_succ, List.set_cons_zero]
          refine AnyR.take (i := 2) (v := ?v2_3) rfl (by kernel_rfl) (by kernel_rfl) (by kernel_rfl) rfl (fun _ _ _ h => h) (by simp) (by rfl) ?y2_3 ?r2_3
          case y2_3 => (intro w9 k9; go_wp2_with (refine (hov.out _).mono ?_; rintro e w8 ⟨rfl, k8⟩); refine ⟨rfl, rfl, ?_, by first | assumption | exact (by repeat (with_reducible (first | exact Kp.refl _ | refine Kp.alloc ?_ _ | refine Kp.drew ?_ | refine Kp.drewN ?_ _ | refine Kp.setCell ?_ (by first | assumption | (simp; done) | (simp; omega)) _)))⟩; simp only [Array.getD_eq_getD_getElem?, List.getElem?_toArray, List.getElem?_cons_succ, List.getElem?_cons_zero, Option.getD_some]; first | with_reducible rfl | rfl)
          intro V3 K3
          simp only [List.setIfInBounds_toArray, List.set_cons_succ, List.set_cons_zero]
          refine AnyR.take (i := 3) (v := ?v3_4) rfl (by kernel_rfl) (by kernel_rfl) (by kernel_rfl) rfl (fun _ _ _ h => h) (by simp) (by rfl) ?y3_4 ?r3_4
          case y3_4 => (intro w9 k9; (go_wp2_with (refine (htu.out _).mono ?_; rintro e w8 ⟨rfl, k8⟩)); refine ⟨rfl, rfl, ?_, by first | assumption | exact (by repeat (with_reducible (first | exact Kp.refl _ | refine Kp.alloc ?_ _ | refine Kp.drew ?_ | refine Kp.drewN ?_ _ | refine Kp.setCell ?_ (by first | assumption | (simp; done) | (simp; omega)) _)))⟩; simp only [Array.getD_eq_getD_getElem?, List.getElem?_toArray, List.getElem?_cons_succ, List.getElem?_cons_zero, Option.getD_some]; first | with_reducible rfl | rfl)
          intro V4 K4
          simp only [List.setIfInBounds_toArray, List.set_cons_succ, List.set_cons_zero]
          dsimp only [crV]
          have KB := KA.trans (K2.trans (K3.trans K4))
          clear K0 K1 K2 K3 K4 KA
          refine AnyR.only (i := 4) rfl (by kernel_rfl) ?_
          intro K9 hK9
          go_wp2_with fail
          refine hK9 _ _ (by repeat (with_reducible (first | exact Kp.refl _ | refine Kp.alloc ?_ _ | refine Kp.drew ?_ | refine Kp.drewN ?_ _ | refine Kp.setCell ?_ (by first | assumption | (simp; done) | (simp; omega)) _))) ?_
          clear hK9 K9
          intro V5 K5
          have B8 := (Blk.new V4 73 #[.int .i64 0, .int .i64 0, .int .i64 0, .int .i64 0, .bool false]).kp K5
          have KC := (KB.alloc _).trans K5
          have hgt : wo.heap.size < V4.heap.size := by have := KB.size; have := hsz.out; omega
          generalize V4.heap.size = q at *
          have hgt2 : W0.heap.size ≤ q := by have := hsz.out; omega
          have t0 := B8.cell 0 rfl
          have t1 := B8.cell 1 rfl
          have t2 := B8.cell 2 rfl
          have t3 := B8.cell 3 rfl
          have t4 := B8.cell 4 rfl
          have f0 := B8.free 0
          have f1 := B8.free 1
          have f2 := B8.free 2
          have f3 := B8.free 3
          have f4 := B8.free 4
          refine AnyR.close (j := 5) rfl (by kernel_rfl) (by kernel_rfl) (by kernel_rfl) ?_
          go_wp2_with fail
          go_meet
          case rel =>
            have e1 := ((((B8.set_ 0 (.int .i64 ya)).set_ 1 (.int .i64 yb)).set_ 2 (.int .i64 yc)).set_ 3 (.int .i64 yd)).set_ 4 (.bool yp)
            refine ⟨q, rfl, hgt, (by repeat (with_reducible (first | exact KC | refine Kp.alloc ?_ _ | refine Kp.drew ?_ | refine Kp.drewN ?_ _ | refine Kp.setCell ?_ (by first | assumption | (simp; done) | (simp; omega)) _))), ?_⟩
            simpa using e1
        case rest =>
          obtain ⟨q, rfl, hq1, hq2, hq3⟩ := hcut
          clear c0 c1 c2' c3 c4 f0 f1 f2 f3 f4 s0 s1 s2 s3 hov htu
          have x4 := ((Blk.new wo 73 #[.int .i64 xa, .int .i64 xb, .int .i64 xc, .int .i64 xd, .bool xp]).kp hq2).cell 4 rfl
          have y4 := hq3.cell 4 rfl
          have z4 := hq3.free 4
          go_upto_region 9 with (fail)
          have E8 := hq3.set_ 4 (.bool (!xp))
          have r4' := (r4.kp hq2.al).far (p := ⟨q, 4, none⟩) (show g ≠ q by omega) (.bool (!xp))
          have rb' := (rb.kp hq2.al).far (p := ⟨q, 4, none⟩) (show w.heap.size + 1 ≠ q by omega) (.bool (!xp))
          have r5' := (r5.kp hq2.al).far (p := ⟨q, 4, none⟩) (by intro a e; injection e with e; subst e; show p ≠ q; omega) (.bool (!xp))
          have hkw' := (hkw.trans hq2.al).setCell (p := ⟨q, 4, none⟩) (show w.heap.size ≤ q by omega) (.bool (!xp))
          clear x4 y4 z4 r4 rb r5 hkw hq3
          generalize wc.setCell ⟨q, 4, none⟩ (.bool (!xp)) = W8 at *
          replace E8 : Blk W8 q 73 #[.int .i64 ya, .int .i64 yb, .int .i64 yc, .int .i64 yd, .bool (!xp)] := by simpa using E8
          obtain ⟨y0, y1, y2, y3, y4⟩ := E8.cr
          obtain ⟨s0, s1, s2, s3⟩ := r4'.four
          have c0 := r5'.cell (i := n) hlN.out (j := 0) (by decide) rfl
          have c1 := r5'.cell (i := n) hlN.out (j := 1) (by decide) rfl
          have c2' := r5'.cell (i := n) hlN.out (j := 2) (by decide) rfl
          have c3 := r5'.cell (i := n) hlN.out (j := 3) (by decide) rfl
          have c4 := r5'.cell (i := n) hlN.out (j := 4) (by decide) rfl
          simp only [codCr, Nat.add_zero] at c0 c1 c2' c3 c4
          have f0 := r5'.free (n * 5)
          have f1 := r5'.free (n * 5 + 1)
          have f2 := r5'.free (n * 5 + 2)
          have f3 := r5'.free (n * 5 + 3)
          have f4 := r5'.free (n * 5 + 4)
          have F := Lib.hid fun w' (k : Kp W8 w') => And.intro (k.c s0) (And.intro (k.c y0) (And.intro (k.c y1) (And.intro (k.c y2) (And.intro (k.c y3) (k.c y4)))))
          have G := Lib.hid fun w' (k : Kp W8 w') => And.intro (r5'.kp k) (And.intro (r4'.kp k) (rb'.kp k))
          clear s0 y0 y1 y2 y3 y4 c0 c1 c2' c3 c4 f0 f1 f2 f3 f4
          refine wp_region_rob (by kernel_rfl) ?_
          have KA := (Kp.refl W8).drew
          generalize World.drew W8 = V0 at *
          refine AnyR.take (i := 0) (v := ?v0_5) rfl (by kernel_rfl) (by kernel_rfl) (by kernel_rfl) rfl (fun _ _ _ h => h) (by simp) (by rfl) ?y0_5 ?r0_5
          case y0_5 => (intro w9 k9; (obtain ⟨s0, y0, y1, y2, y3, y4⟩ := F.out _ (KA.trans k9); go_wp2_with fail); refine ⟨rfl, rfl, ?_, by first | assumption | exact (by repeat (with_reducible (first | exact Kp.refl _ | refine Kp.alloc ?_ _ | refine Kp.drew ?_ | refine Kp.drewN ?_ _ | refine Kp.setCell ?_ (by first | assumption | (simp; done) | (simp; omega)) _)))⟩; simp only [Array.getD_eq_getD_getElem?, List.getElem?_toArray, List.getElem?_cons_succ, List.getElem?_cons_zero, Option.getD_some]; first | with_reducible rfl | rfl)
          intro V1 K_
          simp only [List.setIfInBounds_toArray, List.set_cons_succ, List.set_cons_zero]
          replace KA := KA.trans K_
          clear K_
          refine AnyR.take (i := 1) (v := ?v1_6) rfl (by kernel_rfl) (by kernel_rfl) (by kernel_rfl) rfl (fun _ _ _ h => h) (by simp) (by rfl) ?y1_6 ?r1_6
          case y1_6 => (intro w9 k9; (obtain ⟨s0, y0, y1, y2, y3, y4⟩ := F.out _ (KA.trans k9); go_wp2_with fail); refine ⟨rfl, rfl, ?_, by first | assumption | exact (by repeat (with_reducible (first | exact Kp.refl _ | refine Kp.alloc ?_ _ | refine Kp.drew ?_ | refine Kp.drewN ?_ _ | refine Kp.setCell ?_ (by first | assumption | (simp; done) | (simp; omega)) _)))⟩; simp only [Array.getD_eq_getD_getElem?, List.getElem?_toArray, List.getElem?_cons_succ, List.getElem?_cons_zero, Option.getD_some]; first | with_reducible rfl | rfl)
          intro V2 K_
          simp only [List.setIfInBounds_toArray, List.set_cons_succ, List.set_cons_zero]
          replace KA := KA.trans K_
          clear K_
          refine AnyR.take (i := 2) (v := ?v2_7) rfl (by kernel_rfl) (by kernel_rfl) (by kernel_rfl) rfl (fun _ _ _ h => h) (by simp) (by rfl) ?y2_7 ?r2_7
          case y2_7 => (intro w9 k9; (obtain ⟨s0, y0, y1, y2, y3, y4⟩ := F.out _ (KA.trans k9); go_wp2_with fail); refine ⟨rfl, rfl, ?_, by first | assumption | exact (by repeat (with_reducible (first | exact Kp.refl _ | refine Kp.alloc ?_ _ | refine Kp.drew ?_ | refine Kp.drewN ?_ _ | refine Kp.setCell ?_ (by first | assumption | (simp; done) | (simp; omega)) _)))⟩; simp only [Array.getD_eq_getD_getElem?, List.getElem?_toArray, List.getElem?_cons_succ, List.getElem?_cons_zero, Option.getD_some]; first | with_reducible rfl | rfl)
          intro V3 K_
          simp only [List.setIfInBounds_toArray, List.set_cons_succ, List.set_cons_zero]
          replace KA := KA.trans K_
          clear K_
          refine AnyR.take (i := 3) (v := ?v3_8) rfl (by kernel_rfl) (by kernel_rfl) (by kernel_rfl) rfl (fun _ _ _ h => h) (by simp) (by rfl) ?y3_8 ?r3_8
          case y3_8 => (intro w9 k9; (obtain ⟨s0, y0, y1, y2, y3, y4⟩ := F.out _ (KA.trans k9); go_wp2_with fail); refine ⟨rfl, rfl, ?_, by first | assumption | exact (by repeat (with_reducible (first | exact Kp.refl _ | refine Kp.alloc ?_ _ | refine Kp.drew ?_ | refine Kp.drewN ?_ _ | refine Kp.setCell ?_ (by first | assumption | (simp; done) | (simp; omega)) _)))⟩; simp only [Array.getD_eq_getD_getElem?, List.getElem?_toArray, List.getElem?_cons_succ, List.getElem?_cons_zero, Option.getD_some]; first | with_reducible rfl | rfl)
          intro V4 K_
          simp only [List.setIfInBounds_toArray, List.set_cons_succ, List.set_cons_zero]
          replace KA := KA.trans K_
          clear K_
          refine AnyR.take (i := 4) (v := ?v4_9) rfl (by kernel_rfl) (by kernel_rfl) (by kernel_rfl) rfl (fun _ _ _ h => h) (by simp) (by rfl) ?y4_9 ?r4_9
          case y4_9 => (intro w9 k9; (obtain ⟨s0, y0, y1, y2, y3, y4⟩ := F.out _ (KA.trans k9); go_wp2_with fail); refine ⟨rfl, rfl, ?_, by first | assumption | exact (by repeat (with_reducible (first | exact Kp.refl _ | refine Kp.alloc ?_ _ | refine Kp.drew ?_ | refine Kp.drewN ?_ _ | refine Kp.setCell ?_ (by first | assumption | (simp; done) | (simp; omega)) _)))⟩; simp only [Array.getD_eq_getD_getElem?, List.getElem?_toArray, List.getElem?_cons_succ, List.getElem?_cons_zero, Option.getD_some]; first | with_reducible rfl | rfl)
          intro V5 K_
          simp only [List.setIfInBounds_toArray, List.set_cons_succ, List.set_cons_zero]
          replace KA := KA.trans K_
          clear K_
          refine AnyR.take (i := 5) (v := ?v5_10) rfl (by kernel_rfl) (by kernel_rfl) (by kernel_rfl) rfl (fun _ _ _ h => h) (by simp) (by rfl) ?y5_10 ?r5_10
          case y5_10 => (intro w9 k9; (obtain ⟨s0, y0, y1, y2, y3, y4⟩ := F.out _ (KA.trans k9); go_wp2_with fail); refine ⟨rfl, rfl, ?_, by first | assumption | exact (by repeat (with_reducible (first | exact Kp.refl _ | refine Kp.alloc ?_ _ | refine Kp.drew ?_ | refine Kp.drewN ?_ _ | refine Kp.setCell ?_ (by first | assumption | (simp; done) | (simp; omega)) _)))⟩; simp only [Array.getD_eq_getD_getElem?, List.getElem?_toArray, List.getElem?_cons_succ, List.getElem?_cons_zero, Option.getD_some]; first | with_reducible rfl | rfl)
          intro V6 K_
          simp only [List.setIfInBounds_toArray, List.set_cons_succ, List.set_cons_zero]
          replace KA := KA.trans K_
          clear K_
          refine AnyR.take (i := 6) (v := ?v6_11) rfl (by kernel_rfl) (by kernel_rfl) (by kernel_rfl) rfl (fun _ _ _ h => h) (by simp) (by rfl) ?y6_11 ?r6_11
          case y6_11 => (intro w9 k9; (obtain ⟨s0, y0, y1, y2, y3, y4⟩ := F.out _ (KA.trans k9); go_wp2_with fail); refine ⟨rfl, rfl, ?_, by first | assumption | exact (by repeat (with_reducible (first | exact Kp.refl _ | refine Kp.alloc ?_ _ | refine Kp.drew ?_ | refine Kp.drewN ?_ _ | refine Kp.setCell ?_ (by first | assumption | (simp; done) | (simp; omega)) _)))⟩; simp only [Array.getD_eq_getD_getElem?, List.getElem?_toArray, List.getElem?_cons_succ, List.getElem?_cons_zero, Option.getD_some]; first | with_reducible rfl | rfl)
          intro V7 K_
          simp only [List.setIfInBounds_toArray, List.set_cons_succ, List.set_cons_zero]
          replace KA := KA.trans K_
          clear K_
          refine AnyR.take (i := 7) (v := ?v7_12) rfl (by kernel_rfl) (by kernel_rfl) (by kernel_rfl) rfl (fun _ _ _ h => h) (by simp) (by rfl) ?y7_12 ?r7_12
          case y7_12 => (intro w9 k9; (obtain ⟨s0, y0, y1, y2, y3, y4⟩ := F.out _ (KA.trans k9); go_wp2_with fail); refine ⟨rfl, rfl, ?_, by first | assumption | exact (by repeat (with_reducible (first | exact Kp.refl _ | refine Kp.alloc ?_ _ | refine Kp.drew ?_ | refine Kp.drewN ?_ _ | refine Kp.setCell ?_ (by first | assumption | (simp; done) | (simp; omega)) _)))⟩; simp only [Array.getD_eq_getD_getElem?, List.getElem?_toArray, List.getElem?_cons_succ, List.getElem?_cons_zero, Option.getD_some]; first | with_reducible rfl | rfl)
          intro V8 K_
          simp only [List.setIfInBounds_toArray, List.set_cons_succ, List.set_cons_zero]
          replace KA := KA.trans K_
          clear K_
          obtain ⟨r5, r4, rb⟩ := G.out _ KA
          have c0 := r5.cell (i := n) hlN.out (j := 0) (by decide) rfl
          have c1 := r5.cell (i := n) hlN.out (j := 1) (by decide) rfl
          have c2' := r5.cell (i := n) hlN.out (j := 2) (by decide) rfl
          have c3 := r5.cell (i := n) hlN.out (j := 3) (by decide) rfl
          have c4 := r5.cell (i := n) hlN.out (j := 4) (by decide) rfl
          simp only [codCr, Nat.add_zero] at c0 c1 c2' c3 c4
          have f0 := r5.free (n * 5)
          have f1 := r5.free (n * 5 + 1)
          have f2 := r5.free (n * 5 + 2)
          have f3 := r5.free (n * 5 + 3)
          have f4 := r5.free (n * 5 + 4)
          refine AnyR.close (j := 8) rfl (by kernel_rfl) (by kernel_rfl) (by kernel_rfl) ?_
          go_wp2_with fail
          go_roundw
          case rel =>
            have e1 := r5.cr5 hlN.out (⟨ya, yb, yc, yd, !xp⟩ : Cr)
            have hst' : mxF mirC d.crs (n + 1) = X0.set n ⟨ya, yb, yc, yd, !xp⟩ := by rw [hst.out, ← htm.out]
            have hw1 : w.heap.size ≤ p := by omega
            exact ⟨n + 1, by omega, by go_num, (by repeat (with_reducible (first | exact hkw'.trans KA | refine Kp.alloc ?_ _ | refine Kp.drew ?_ | refine Kp.drewN ?_ _ | refine Kp.setCell ?_ (by first | assumption | (simp; done) | (simp; omega)) _))), (by repeat (with_reducible (first | exact rb | refine Blk.alloc ?_ _ | refine Blk.drew ?_ | refine Blk.far ?_ (by first | assumption | (simp; done) | (simp; omega) | (apply Ne.symm; assumption)) _))), (by repeat (with_reducible (first | exact r4 | refine Blk.alloc ?_ _ | refine Blk.drew ?_ | refine Blk.far ?_ (by first | assumption | (simp; done) | (simp; omega) | (apply Ne.symm; assumption)) _))), by rw [hst']; exact e1⟩
          case measure => simp [intOf] <;> omega
      · obtain rfl : n = d.crs.length := by omega
        have hme := mxF_all mirC d.crs
        have r5' : Ow codCr 73 wr (w.heap.size + 2) (.slice A2 d.crs.length c2) (mirD d).crs := by have h := r5; rw [hme] at h; exact h
        clear hme
        obtain ⟨b0, b1, b2, b3⟩ := rb.two
        go_wp2_with fail
        refine bodyPost_ret (v := .tuple #[.agg #[.slice A2 d.crs.length c2, .int .i64 d.loops], .int .i64 0]) (by simp [results, Try.results28, go_sem, *]) rfl ?_
        exact .inr ⟨hb1.out, _, rfl, IsDg.of_rv (d := mirD d) (Ow.rv (E := 73) (base := w.heap.size + 2) (by repeat (with_reducible (first | exact r5' | refine Ow.al ?_ _ | refine Ow.drew ?_ | refine Ow.setLow ?_ (by first | assumption | (simp; done) | (simp; omega)) _))) (by show _ * 40 ≤ _; simp [mirD]; omega)), (by repeat (with_reducible (first | exact hkw | refine Kp.alloc ?_ _ | refine Kp.drew ?_ | refine Kp.drewN ?_ _ | refine Kp.setCell ?_ (by first | assumption | (simp; done) | (simp; omega)) _)))⟩
end Go.Proofs.Ytlbpgnimpcflaaa
