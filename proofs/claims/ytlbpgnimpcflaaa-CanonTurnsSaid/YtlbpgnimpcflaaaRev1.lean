/- One part runs the other way round: the program's walk. -/
import Derived.Test.YtlbpgnimpcflaaaMir1
import Derived.Test.YtlbpgnimpcflaaaRev0
namespace Go.Proofs.Ytlbpgnimpcflaaa
open Go.ChangeShapes Go.WideShapes Go.ChangeAt Go.RowKit

def inB (d : Dg) (p : Nat) (a : Int) : Bool := decide (a ∈ ga (strandsL d) p)
def rev1 (bl : Bool) (x : Cr) : Cr := if bl = true then ⟨x.c, x.d, x.a, x.b, x.plus⟩ else x
def revC (bl ab : Bool) (x : Cr) : Cr := if bl = ab then rev1 bl x else ⟨(rev1 bl x).a, (rev1 bl x).b, (rev1 bl x).c, (rev1 bl x).d, !(rev1 bl x).plus⟩
def revD (d : Dg) (p : Nat) : Dg := ⟨d.crs.map fun x => revC (inB d p x.a) (inB d p x.b) x, d.loops⟩
def revR (d : Dg) (part : Int) : Dg × Int := if 0 ≤ part ∧ part < ((strandsL d).length : Int) then (revD d part.toNat, 0) else (⟨[], 0⟩, 3)
theorem noDg (w : World) (B : Nat) : IsDg w B (.agg #[.slice none 0 0, .int .i64 0]) ⟨[], 0⟩ := ⟨none, 0, rfl, Nat.le_refl _, Rd.nil_⟩
theorem tur2 (x : Cr) : turC x 2 = rev1 true x := rfl
theorem arcs_ab {d : Dg} (h : arcsB d = true) {n : Nat} (hn : n < d.crs.length) : (1 ≤ (ga d.crs n).a ∧ (ga d.crs n).a ≤ 2 * (d.crs.length : Int)) ∧ (1 ≤ (ga d.crs n).b ∧ (ga d.crs n).b ≤ 2 * (d.crs.length : Int)) := by
  have h0 := arcs_rng h (j := 4 * n) (by omega)
  have h1 := arcs_rng h (j := 4 * n + 1) (by omega)
  unfold arcJ arcAt at h0 h1
  rw [show 4 * n / 4 = n by omega, show 4 * n % 4 = 0 by omega] at h0
  rw [show (4 * n + 1) / 4 = n by omega, show (4 * n + 1) % 4 = 1 by omega] at h1
  exact ⟨h0, h1⟩

def crA (x : Cr) : Array Value := #[.int .i64 x.a, .int .i64 x.b, .int .i64 x.c, .int .i64 x.d, .bool x.plus]
theorem Blk.set5 {w : World} {g : Nat} {t : TypeId} {a b c d e : Value} (h : Blk w g t #[a, b, c, d, e]) (a' b' c' d' e' : Value) :
    Blk (((((w.setCell ⟨g, 0, none⟩ a').setCell ⟨g, 1, none⟩ b').setCell ⟨g, 2, none⟩ c').setCell ⟨g, 3, none⟩ d').setCell ⟨g, 4, none⟩ e') g t #[a', b', c', d', e'] := by
  simpa using ((((h.set_ 0 a').set_ 1 b').set_ 2 c').set_ 3 d').set_ 4 e'

set_option maxRecDepth 100000 in
set_option maxHeartbeats 8000000 in
theorem reverse_any (v : Value) (d : Dg) (part : Int) (w : World) (hd : IsDg w w.heap.size v d) : Calls Try.prog 29 #[v, .int .i64 part] w (CtPost (mayB d) (revR d part) w) := by
  obtain ⟨A, cap, rfl, hcap, hr⟩ := hd
  have hb := Lib.hid fun w' (hk : Kp w w') => new_any (.agg #[.slice A d.crs.length cap, .int .i64 d.loops]) d w' ⟨A, cap, rfl, hcap, hr.kp hk⟩
  have hm := Lib.hid (may_arcs (d := d))
  clear hr
  generalize mayB d = b at *
  go_enter Try.func29, Try.ntmps29
  go_wp2_with fail
  refine (hb.out _ (((Kp.refl _).alloc _).alloc _)).mono ?_
  rintro e w1 (⟨hb0, rfl, hk⟩ | ⟨hb1, v, rfl, hk, hs⟩)
  · have hb0' := Lib.hid hb0
    obtain ⟨x0, x1, x2, x3⟩ := (Blk.kp (Blk.new' (w.alloc (.cells #[.slice A d.crs.length cap, .int .i64 d.loops] 27)) 27 #[.slice none 0 0, .int .i64 0] (n := w.heap.size + 1) (by simp)) hk).two
    clear hb0
    go_wp2_with fail
    refine bodyPost_ret (v := .tuple #[.agg #[.slice none 0 0, .int .i64 0], .int .i64 7]) (by simp [results, Try.results29, go_sem, *]) rfl ?_
    exact .inl ⟨hb0'.out, rfl, (by repeat (with_reducible (first | exact hk.al.al | refine Kp.alloc ?_ _ | refine Kp.drew ?_ | refine Kp.drewN ?_ _ | refine Kp.setCell ?_ (by first | assumption | (simp; done) | (simp; omega)) _)))⟩
  · obtain ⟨hn, ha⟩ := hm.out hb1
    have hrm : d.crs.length * 40 ≤ 140737488355328 := by omega
    have hst := Lib.hid fun w' (k : Kp w1 w') => strands_any v d w' _ (hs.kp k) hn ha
    have hpt := Lib.hid fun w' (k : Kp w1 w') => parts_any v d w' _ (hs.kp k) hn ha
    obtain ⟨g, A2, c2, gi, go, rfl, hbg, _, r4, r5, -, -⟩ := hs
    have rb := (Blk.kp (Blk.new' (w.alloc (.cells #[.slice A d.crs.length cap, .int .i64 d.loops] 27)) 27 #[.slice none 0 0, .int .i64 0] (n := w.heap.size + 1) (by simp)) hk)
    have hkw : Kp w w1 := hk.al.al
    replace hbg : w.heap.size + 2 ≤ g := by simpa using hbg
    replace r5 : Ow codCr 73 w1 (w.heap.size + 2) (.slice A2 d.crs.length c2) d.crs := by simpa using r5
    obtain ⟨s0, s1, s2, s3⟩ := r4.four
    have hz := rb.lt
    have hpa := Lib.hid fun a i h0 h1 hi => parts_at ha (a := a) (i := i) h0 h1 hi
    have harc := Lib.hid fun n hn => arcs_ab ha (n := n) hn
    have hpl := partsL_len d
    have hno := Lib.hid (show ¬ (0 ≤ part ∧ part < ((strandsL d).length : Int)) → revR d part = (⟨[], 0⟩, 3) from fun h => if_neg h)
    have hyes := Lib.hid (show (0 ≤ part ∧ part < ((strandsL d).length : Int)) → revR d part = (revD d part.toNat, 0) from fun h => if_pos h)
    have hsl := (strandsL_mem ha).2
    replace hb1 := Lib.hid hb1
    replace hpl := Lib.hid hpl
    clear hb hm ha hk
    by_cases hp0 : part < 0
    · have hres := Lib.hid (hno.out (by omega))
      obtain ⟨b0, b1, b2, b3⟩ := rb.two
      clear hno hyes hpa
      go_wp2_with fail
      refine bodyPost_ret (v := .tuple #[.agg #[.slice none 0 0, .int .i64 0], .int .i64 3]) (by simp [results, Try.results29, go_sem, *]) rfl ?_
      exact .inr ⟨hb1.out, _, by rw [hres.out], by rw [hres.out]; exact noDg _ _, (by repeat (with_reducible (first | exact hkw | refine Kp.alloc ?_ _ | refine Kp.drew ?_ | refine Kp.drewN ?_ _ | refine Kp.setCell ?_ (by first | assumption | (simp; done) | (simp; omega)) _)))⟩
    · go_wp2_with fail
      refine (hst.out _ (Kp.refl _)).mono ?_; rintro e w2 ⟨v1, rfl, ⟨vs, l1, ⟨A1, c1, rfl, hc1, -⟩, -⟩, hk1⟩
      rw [l1]
      clear l1
      by_cases hp1 : (strandsL d).length ≤ part
      · have hres := Lib.hid (hno.out (by omega))
        have rb2 := rb.kp hk1
        obtain ⟨b0, b1, b2, b3⟩ := rb2.two
        clear hno hyes hpa
        go_wp2_with fail
        refine bodyPost_ret (v := .tuple #[.agg #[.slice none 0 0, .int .i64 0], .int .i64 3]) (by simp [results, Try.results29, go_sem, *]) rfl ?_
        exact .inr ⟨hb1.out, _, by rw [hres.out], by rw [hres.out]; exact noDg _ _, (by repeat (with_reducible (first | exact hkw.trans hk1 | refine Kp.alloc ?_ _ | refine Kp.drew ?_ | refine Kp.drewN ?_ _ | refine Kp.setCell ?_ (by first | assumption | (simp; done) | (simp; omega)) _)))⟩
      · have hres := Lib.hid (hyes.out (by omega))
        obtain ⟨pt, rfl⟩ := Int.eq_ofNat_of_zero_le (show 0 ≤ part by omega)
        have hptl : pt < (strandsL d).length := by omega
        have hpa2 := Lib.hid fun a h0 h1 => hpa.out a pt h0 h1 hptl
        have tp : decide ((pt : Int) < 0) = false := by simp
        clear hno hyes hpa hp0
        go_wp2_with fail
        refine (hpt.out _ hk1).mono ?_; rintro e w3 ⟨pg, rfl, hP, hk2⟩
        have hkw3 := hkw.trans (hk1.trans hk2)
        have rb3 := (rb.kp hk1).kp hk2
        have r43 := (r4.kp hk1).kp hk2
        have r53 := (r5.kp hk1).kp hk2
        have hpg := hP.lt pg rfl
        have hzz := hk1.size
        obtain ⟨s0, s1, s2, s3⟩ := r43.four
        have hpg1 : w.heap.size + 2 ≤ pg := by omega
        replace hP : OwnI w3 (w.heap.size + 2) (.slice (some ⟨pg, 0, none⟩) (2 * d.crs.length + 1) (2 * d.crs.length + 1)) (partsL d) := hP.base (by omega)
        clear rb r4 r5 hk1 hk2 hst hpt hpg hzz hz hkw
        go_wp2_with fail
        go_loopw [39] (fun i wr => ∃ n : Nat, n ≤ d.crs.length ∧ i = .int .i64 n ∧ Kp w wr ∧ Blk wr (w.heap.size + 1) 27 #[.slice none 0 0, .int .i64 0] ∧
          Blk wr g 81 #[.slice A2 d.crs.length c2, .int .i64 d.loops, .slice (some ⟨gi, 0, none⟩) (2 * d.crs.length + 1) (2 * d.crs.length + 1), .slice (some ⟨go, 0, none⟩) (2 * d.crs.length + 1) (2 * d.crs.length + 1)] ∧
          Ow codCr 73 wr (w.heap.size + 2) (.slice A2 d.crs.length c2) (mxF (fun x => revC (inB d pt x.a) (inB d pt x.b) x) d.crs n) ∧
          OwnI wr (w.heap.size + 2) (.slice (some ⟨pg, 0, none⟩) (2 * d.crs.length + 1) (2 * d.crs.length + 1)) (partsL d)) (fun i _ => d.crs.length - (intOf i).toNat)
        case atStart => exact ⟨0, Nat.zero_le _, rfl, hkw3, rb3, r43, r53, hP⟩
        case round =>
          clear s0 s1 s2 s3 rb3 r43 r53 hkw3 hP
          obtain ⟨n, hn2, rfl, hkw, rb, r4, r5, hP⟩ := hrel
          obtain ⟨s0, s1, s2, s3⟩ := r4.four
          have hz := rb.lt
          have hzg := r4.lt
          by_cases hlt : n < d.crs.length
          · obtain ⟨⟨a0, a1⟩, ⟨b0, b1⟩⟩ := harc.out n hlt
            have hl := mxF_len (fun x => revC (inB d pt x.a) (inB d pt x.b) x) d.crs n
            obtain ⟨p, cp, e, hp1, hp2, _⟩ := r5.form (by omega)
            injection e with e e2 e3
            subst e
            subst e3
            clear e2
            have hpg := r5.ne_blk r4 (by decide)
            replace hpg : p ≠ g := by simpa [Value.ownBlock] using hpg
            have hpp := r5.ne_ (ownI_ow hP) (by decide)
            replace hpp : p ≠ pg := by simpa [Value.ownBlock] using hpp
            have hat := mxF_at (fun x => revC (inB d pt x.a) (inB d pt x.b) x) d.crs n n (by omega) hlt
            rw [if_neg (by omega)] at hat
            have hst : Hid (mxF (fun x => revC (inB d pt x.a) (inB d pt x.b) x) d.crs (n + 1) = (mxF (fun x => revC (inB d pt x.a) (inB d pt x.b) x) d.crs n).set n (revC (inB d pt (Go.Proofs.Ytlbpgnimpcflaaa.ga d.crs n).a) (inB d pt (Go.Proofs.Ytlbpgnimpcflaaa.ga d.crs n).b) (Go.Proofs.Ytlbpgnimpcflaaa.ga d.crs n))) := rfl
            have c0 := r5.cell (i := n) (by omega) (j := 0) (by decide) rfl
            have c1 := r5.cell (i := n) (by omega) (j := 1) (by decide) rfl
            have c2' := r5.cell (i := n) (by omega) (j := 2) (by decide) rfl
            have c3 := r5.cell (i := n) (by omega) (j := 3) (by decide) rfl
            have c4 := r5.cell (i := n) (by omega) (j := 4) (by decide) rfl
            rw [hat] at c0 c1 c2' c3 c4
            have hlN : n < (mxF (fun x => revC (inB d pt x.a) (inB d pt x.b) x) d.crs n).length := by omega
            generalize mxF (fun x => revC (inB d pt x.a) (inB d pt x.b) x) d.crs n = X0 at *
            have htu := Lib.hid fun w' => turned_any (Go.Proofs.Ytlbpgnimpcflaaa.ga d.crs n) 2 w' (by omega)
            rw [tur2] at htu
            simp only [codCr, Nat.add_zero] at c0 c1 c2' c3 c4
            obtain ⟨na, hna⟩ := Int.eq_ofNat_of_zero_le (show 0 ≤ (Go.Proofs.Ytlbpgnimpcflaaa.ga d.crs n).a by omega)
            obtain ⟨nb, hnb⟩ := Int.eq_ofNat_of_zero_le (show 0 ≤ (Go.Proofs.Ytlbpgnimpcflaaa.ga d.crs n).b by omega)
            have qa := hpa2.out na (by omega) (by omega)
            have qb := hpa2.out nb (by omega) (by omega)
            have ga1 := hP.cell (i := na) (by rw [hpl.out]; omega)
            have gb1 := hP.cell (i := nb) (by rw [hpl.out]; omega)
            have hBa : Hid (inB d pt (Go.Proofs.Ytlbpgnimpcflaaa.ga d.crs n).a = (Go.Proofs.Ytlbpgnimpcflaaa.gi (partsL d) na == (pt : Int))) := by rw [Hid, hna]; unfold inB; rw [Bool.eq_iff_iff, decide_eq_true_iff, beq_iff_eq]; exact qa.symm
            have hBb : Hid (inB d pt (Go.Proofs.Ytlbpgnimpcflaaa.ga d.crs n).b = (Go.Proofs.Ytlbpgnimpcflaaa.gi (partsL d) nb == (pt : Int))) := by rw [Hid, hnb]; unfold inB; rw [Bool.eq_iff_iff, decide_eq_true_iff, beq_iff_eq]; exact qb.symm
            rw [hBa.out, hBb.out] at hst
            have hna2 : na < 2 * d.crs.length + 1 := by omega
            have hnb2 : nb < 2 * d.crs.length + 1 := by omega
            clear hBa hBb qa qb
            generalize Go.Proofs.Ytlbpgnimpcflaaa.ga d.crs n = x at *
            obtain ⟨xa, xb, xc, xd, xp⟩ := x
            dsimp only at *
            subst hna
            subst hnb
            clear a0 a1 b0 b1
            generalize hta : (Go.Proofs.Ytlbpgnimpcflaaa.gi (partsL d) na == (pt : Int)) = bl at *
            generalize htb : (Go.Proofs.Ytlbpgnimpcflaaa.gi (partsL d) nb == (pt : Int)) = ab at *
            replace hl := Lib.hid hl
            replace hat := Lib.hid hat
            replace hlN := Lib.hid hlN
            obtain ⟨wo, rfl⟩ : ∃ wo : World, wo = wr := ⟨_, rfl⟩
            go_upto_region 10 with (fail)
            have hpgl := (hP.lt pg rfl).2
            have ia : (na : Int) < ((2 * d.crs.length + 1 : Nat) : Int) := by omega
            have ib : (nb : Int) < ((2 * d.crs.length + 1 : Nat) : Int) := by omega
            have ia' : (na : Int) < 2 * (d.crs.length : Int) + 1 := by omega
            have ib' : (nb : Int) < 2 * (d.crs.length : Int) + 1 := by omega
            go_quiet (fail)
            clear ia ib ia' ib'
            have B0 := (Blk.new wo 73 #[.int .i64 na, .int .i64 nb, .int .i64 xc, .int .i64 xd, .bool xp]).drewN nq
            have K0 : Kp wo ((wo.alloc (.cells #[.int .i64 na, .int .i64 nb, .int .i64 xc, .int .i64 xd, .bool xp] 73)).drewN nq) := ((Kp.refl _).alloc _).drewN _
            clear c0 c1 c2' c3 c4 s0 s1 s2 s3 ga1 gb1 hta htb
            go_upto_if 58 with (fail)
            generalize (wo.alloc (.cells #[.int .i64 na, .int .i64 nb, .int .i64 xc, .int .i64 xd, .bool xp] 73)).drewN nq = W0 at *
            go_cut [] (fun wx => Kp wo wx ∧ Blk wx wo.heap.size 73 (crA (rev1 bl ⟨na, nb, xc, xd, xp⟩)))
            case first =>
              cases bl
              · go_wp2_with fail
                go_meet
                case rel => exact ⟨K0, B0⟩
              · obtain ⟨x0, x1, x2, x3, x4⟩ := B0.cr
                go_wp2_with fail
                refine (htu.out _).mono ?_; rintro e w4 ⟨rfl, hk4⟩
                dsimp only [crV, rev1]
                have B1 := B0.kp hk4
                obtain ⟨y0, y1, y2, y3, y4⟩ := B1.cr
                have f0 := B1.free 0
                have f1 := B1.free 1
                have f2 := B1.free 2
                have f3 := B1.free 3
                have f4 := B1.free 4
                go_wp2_with fail
                go_meet
                case rel => exact ⟨(by repeat (with_reducible (first | exact K0.trans hk4 | refine Kp.alloc ?_ _ | refine Kp.drew ?_ | refine Kp.drewN ?_ _ | refine Kp.setCell ?_ (by first | assumption | (simp; done) | (simp; omega)) _))), B1.set5 _ _ _ _ _⟩
            case rest =>
              obtain ⟨K1, B1⟩ := hcut
              clear K0 B0 htu
              generalize hy : rev1 bl ⟨na, nb, xc, xd, xp⟩ = y at *
              have hrc : Hid (revC bl ab ⟨na, nb, xc, xd, xp⟩ = if bl = ab then y else ⟨y.a, y.b, y.c, y.d, !y.plus⟩) := by rw [Hid, ← hy]; rfl
              obtain ⟨ya, yb, yc, yd, yp⟩ := y
              dsimp only [crA] at *
              clear hy
              obtain ⟨y0, y1, y2, y3, y4⟩ := B1.cr
              have f4 := B1.free 4
              go_upto_if 63 with (fail)
              go_cut [] (fun wx => Kp wo wx ∧ Blk wx wo.heap.size 73 (crA (revC bl ab ⟨na, nb, xc, xd, xp⟩)))
              case first =>
                cases bl <;> cases ab
                · rw [if_pos rfl] at hrc
                  go_wp2_with fail
                  go_meet
                  case rel => exact ⟨K1, by rw [hrc.out]; exact B1⟩
                · rw [if_neg (by simp)] at hrc
                  go_wp2_with fail
                  go_meet
                  case rel => exact ⟨(by repeat (with_reducible (first | exact K1 | refine Kp.alloc ?_ _ | refine Kp.drew ?_ | refine Kp.drewN ?_ _ | refine Kp.setCell ?_ (by first | assumption | (simp; done) | (simp; omega)) _))), by rw [hrc.out]; simpa [crA] using B1.set_ 4 (.bool (!yp))⟩
                · rw [if_neg (by simp)] at hrc
                  go_wp2_with fail
                  go_meet
                  case rel => exact ⟨(by repeat (with_reducible (first | exact K1 | refine Kp.alloc ?_ _ | refine Kp.drew ?_ | refine Kp.drewN ?_ _ | refine Kp.setCell ?_ (by first | assumption | (simp; done) | (simp; omega)) _))), by rw [hrc.out]; simpa [crA] using B1.set_ 4 (.bool (!yp))⟩
                · rw [if_pos rfl] at hrc
                  go_wp2_with fail
                  go_meet
                  case rel => exact ⟨K1, by rw [hrc.out]; exact B1⟩
              case rest =>
                clear K1 B1 hrc y0 y1 y2 y3 y4 f4 ya yb yc yd yp
                obtain ⟨K1, B1⟩ := hcut
                generalize revC bl ab ⟨na, nb, xc, xd, xp⟩ = y at *
                obtain ⟨ya, yb, yc, yd, yp⟩ := y
                dsimp only [crA] at *
                go_upto_region 15 with (fail)
                generalize hq0 : wo.heap.size = q at *
                have rb1 := rb.kp K1
                have r41 := r4.kp K1
                have r51 := r5.kp K1
                have hP1 := hP.kp K1
                have hkw1 := hkw.trans K1
                replace hq0 := Lib.hid hq0
                clear rb r4 r5 hP hkw K1
                obtain ⟨y0, y1, y2, y3, y4⟩ := B1.cr
                obtain ⟨s0, s1, s2, s3⟩ := r41.four
                have F := Lib.hid fun w' (k : Kp wc w') => And.intro (k.c s0) (And.intro (k.c y0) (And.intro (k.c y1) (And.intro (k.c y2) (And.intro (k.c y3) (k.c y4)))))
                have G := Lib.hid fun w' (k : Kp wc w') => And.intro (r51.kp k) (And.intro (r41.kp k) (And.intro (rb1.kp k) (hP1.kp k)))
                clear s0 s1 s2 s3 y0 y1 y2 y3 y4
                refine wp_region_rob (by kernel_rfl) ?_
                have KA := (Kp.refl wc).drew
                generalize World.drew wc = V0 at *
                refine AnyR.take (i := 0) (v := ?v0_1) rfl (by kernel_rfl) (by kernel_rfl) (by kernel_rfl) rfl (fun _ _ _ h => h) (by simp) (by rfl) ?y0_1 ?r0_1
                case y0_1 => (intro w9 k9; (obtain ⟨s0, y0, y1, y2, y3, y4⟩ := F.out _ (KA.trans k9); go_wp2_with fail); refine ⟨rfl, rfl, ?_, by first | assumption | exact (by repeat (with_reducible (first | exact Kp.refl _ | refine Kp.alloc ?_ _ | refine Kp.drew ?_ | refine Kp.drewN ?_ _ | refine Kp.setCell ?_ (by first | assumption | (simp; done) | (simp; omega)) _)))⟩; simp only [Array.getD_eq_getD_getElem?, List.getElem?_toArray, List.getElem?_cons_succ, List.getElem?_cons_zero, Option.getD_some]; first | with_reducible rfl | rfl)
                intro V1 K_
                simp only [List.setIfInBounds_toArray, List.set_cons_succ, List.set_cons_zero]
                replace KA := KA.trans K_
                clear K_
                refine AnyR.take (i := 1) (v := ?v1_2) rfl (by kernel_rfl) (by kernel_rfl) (by kernel_rfl) rfl (fun _ _ _ h => h) (by simp) (by rfl) ?y1_2 ?r1_2
                case y1_2 => (intro w9 k9; (obtain ⟨s0, y0, y1, y2, y3, y4⟩ := F.out _ (KA.trans k9); go_wp2_with fail); refine ⟨rfl, rfl, ?_, by first | assumption | exact (by repeat (with_reducible (first | exact Kp.refl _ | refine Kp.alloc ?_ _ | refine Kp.drew ?_ | refine Kp.drewN ?_ _ | refine Kp.setCell ?_ (by first | assumption | (simp; done) | (simp; omega)) _)))⟩; simp only [Array.getD_eq_getD_getElem?, List.getElem?_toArray, List.getElem?_cons_succ, List.getElem?_cons_zero, Option.getD_some]; first | with_reducible rfl | rfl)
                intro V2 K_
                simp only [List.setIfInBounds_toArray, List.set_cons_succ, List.set_cons_zero]
                replace KA := KA.trans K_
                clear K_
                refine AnyR.take (i := 2) (v := ?v2_3) rfl (by kernel_rfl) (by kernel_rfl) (by kernel_rfl) rfl (fun _ _ _ h => h) (by simp) (by rfl) ?y2_3 ?r2_3
                case y2_3 => (intro w9 k9; (obtain ⟨s0, y0, y1, y2, y3, y4⟩ := F.out _ (KA.trans k9); go_wp2_with fail); refine ⟨rfl, rfl, ?_, by first | assumption | exact (by repeat (with_reducible (first | exact Kp.refl _ | refine Kp.alloc ?_ _ | refine Kp.drew ?_ | refine Kp.drewN ?_ _ | refine Kp.setCell ?_ (by first | assumption | (simp; done) | (simp; omega)) _)))⟩; simp only [Array.getD_eq_getD_getElem?, List.getElem?_toArray, List.getElem?_cons_succ, List.getElem?_cons_zero, Option.getD_some]; first | with_reducible rfl | rfl)
                intro V3 K_
                simp only [List.setIfInBounds_toArray, List.set_cons_succ, List.set_cons_zero]
                replace KA := KA.trans K_
                clear K_
                refine AnyR.take (i := 3) (v := ?v3_4) rfl (by kernel_rfl) (by kernel_rfl) (by kernel_rfl) rfl (fun _ _ _ h => h) (by simp) (by rfl) ?y3_4 ?r3_4
                case y3_4 => (intro w9 k9; (obtain ⟨s0, y0, y1, y2, y3, y4⟩ := F.out _ (KA.trans k9); go_wp2_with fail); refine ⟨rfl, rfl, ?_, by first | assumption | exact (by repeat (with_reducible (first | exact Kp.refl _ | refine Kp.alloc ?_ _ | refine Kp.drew ?_ | refine Kp.drewN ?_ _ | refine Kp.setCell ?_ (by first | assumption | (simp; done) | (simp; omega)) _)))⟩; simp only [Array.getD_eq_getD_getElem?, List.getElem?_toArray, List.getElem?_cons_succ, List.getElem?_cons_zero, Option.getD_some]; first | with_reducible rfl | rfl)
                intro V4 K_
                simp only [List.setIfInBounds_toArray, List.set_cons_succ, List.set_cons_zero]
                replace KA := KA.trans K_
                clear K_
                refine AnyR.take (i := 4) (v := ?v4_5) rfl (by kernel_rfl) (by kernel_rfl) (by kernel_rfl) rfl (fun _ _ _ h => h) (by simp) (by rfl) ?y4_5 ?r4_5
                case y4_5 => (intro w9 k9; (obtain ⟨s0, y0, y1, y2, y3, y4⟩ := F.out _ (KA.trans k9); go_wp2_with fail); refine ⟨rfl, rfl, ?_, by first | assumption | exact (by repeat (with_reducible (first | exact Kp.refl _ | refine Kp.alloc ?_ _ | refine Kp.drew ?_ | refine Kp.drewN ?_ _ | refine Kp.setCell ?_ (by first | assumption | (simp; done) | (simp; omega)) _)))⟩; simp only [Array.getD_eq_getD_getElem?, List.getElem?_toArray, List.getElem?_cons_succ, List.getElem?_cons_zero, Option.getD_some]; first | with_reducible rfl | rfl)
                intro V5 K_
                simp only [List.setIfInBounds_toArray, List.set_cons_succ, List.set_cons_zero]
                replace KA := KA.trans K_
                clear K_
                refine AnyR.take (i := 5) (v := ?v5_6) rfl (by kernel_rfl) (by kernel_rfl) (by kernel_rfl) rfl (fun _ _ _ h => h) (by simp) (by rfl) ?y5_6 ?r5_6
                case y5_6 => (intro w9 k9; (obtain ⟨s0, y0, y1, y2, y3, y4⟩ := F.out _ (KA.trans k9); go_wp2_with fail); refine ⟨rfl, rfl, ?_, by first | assumption | exact (by repeat (with_reducible (first | exact Kp.refl _ | refine Kp.alloc ?_ _ | refine Kp.drew ?_ | refine Kp.drewN ?_ _ | refine Kp.setCell ?_ (by first | assumption | (simp; done) | (simp; omega)) _)))⟩; simp only [Array.getD_eq_getD_getElem?, List.getElem?_toArray, List.getElem?_cons_succ, List.getElem?_cons_zero, Option.getD_some]; first | with_reducible rfl | rfl)
                intro V6 K_
                simp only [List.setIfInBounds_toArray, List.set_cons_succ, List.set_cons_zero]
                replace KA := KA.trans K_
                clear K_
                refine AnyR.take (i := 6) (v := ?v6_7) rfl (by kernel_rfl) (by kernel_rfl) (by kernel_rfl) rfl (fun _ _ _ h => h) (by simp) (by rfl) ?y6_7 ?r6_7
                case y6_7 => (intro w9 k9; (obtain ⟨s0, y0, y1, y2, y3, y4⟩ := F.out _ (KA.trans k9); go_wp2_with fail); refine ⟨rfl, rfl, ?_, by first | assumption | exact (by repeat (with_reducible (first | exact Kp.refl _ | refine Kp.alloc ?_ _ | refine Kp.drew ?_ | refine Kp.drewN ?_ _ | refine Kp.setCell ?_ (by first | assumption | (simp; done) | (simp; omega)) _)))⟩; simp only [Array.getD_eq_getD_getElem?, List.getElem?_toArray, List.getElem?_cons_succ, List.getElem?_cons_zero, Option.getD_some]; first | with_reducible rfl | rfl)
                intro V7 K_
                simp only [List.setIfInBounds_toArray, List.set_cons_succ, List.set_cons_zero]
                replace KA := KA.trans K_
                clear K_
                refine AnyR.take (i := 7) (v := ?v7_8) rfl (by kernel_rfl) (by kernel_rfl) (by kernel_rfl) rfl (fun _ _ _ h => h) (by simp) (by rfl) ?y7_8 ?r7_8
                case y7_8 => (intro w9 k9; (obtain ⟨s0, y0, y1, y2, y3, y4⟩ := F.out _ (KA.trans k9); go_wp2_with fail); refine ⟨rfl, rfl, ?_, by first | assumption | exact (by repeat (with_reducible (first | exact Kp.refl _ | refine Kp.alloc ?_ _ | refine Kp.drew ?_ | refine Kp.drewN ?_ _ | refine Kp.setCell ?_ (by first | assumption | (simp; done) | (simp; omega)) _)))⟩; simp only [Array.getD_eq_getD_getElem?, List.getElem?_toArray, List.getElem?_cons_succ, List.getElem?_cons_zero, Option.getD_some]; first | with_reducible rfl | rfl)
                intro V8 K_
                simp only [List.setIfInBounds_toArray, List.set_cons_succ, List.set_cons_zero]
                replace KA := KA.trans K_
                clear K_
                obtain ⟨r5, r4, rb, hP⟩ := G.out _ KA
                have c0 := r5.cell (i := n) hlN.out (j := 0) (by decide) rfl
                have c1 := r5.cell (i := n) hlN.out (j := 1) (by decide) rfl
                have c2' := r5.cell (i := n) hlN.out (j := 2) (by decide) rfl
                have c3 := r5.cell (i := n) hlN.out (j := 3) (by decide) rfl
                have c4 := r5.cell (i := n) hlN.out (j := 4) (by decide) rfl
                simp only [codCr, Nat.add_zero] at c0 c1 c2' c3 c4
                have f0 := r5.free (n * 5)
                have f1 := r5.free (n * 5 + 1)
                have f2 := r5.free (n * 5 + 2)
                have f3 := r5.free (n * 5 + 3)
                have f4 := r5.free (n * 5 + 4)
                refine AnyR.close (j := 8) rfl (by kernel_rfl) (by kernel_rfl) (by kernel_rfl) ?_
                go_wp2_with fail
                go_roundw
                case rel =>
                  have e1 := r5.cr5 hlN.out (⟨ya, yb, yc, yd, yp⟩ : Cr)
                  have hw1 : w.heap.size ≤ p := by omega
                  exact ⟨n + 1, by omega, by go_num, (by repeat (with_reducible (first | exact hkw1.trans KA | refine Kp.alloc ?_ _ | refine Kp.drew ?_ | refine Kp.drewN ?_ _ | refine Kp.setCell ?_ (by first | assumption | (simp; done) | (simp; omega)) _))), (by repeat (with_reducible (first | exact rb | refine Blk.alloc ?_ _ | refine Blk.drew ?_ | refine Blk.far ?_ (by first | assumption | (simp; done) | (simp; omega) | (apply Ne.symm; assumption)) _))), (by repeat (with_reducible (first | exact r4 | refine Blk.alloc ?_ _ | refine Blk.drew ?_ | refine Blk.far ?_ (by first | assumption | (simp; done) | (simp; omega) | (apply Ne.symm; assumption)) _))), by rw [hst.out]; exact e1, (by repeat (with_reducible (first | exact hP | refine OwnI.al ?_ _ | refine OwnI.dr ?_ | refine OwnI.set_ ?_ _ _ | refine OwnI.far ?_ (by intro a e; injection e with e; subst e; dsimp only; first | assumption | (apply Ne.symm; assumption) | omega) _)))⟩
                case measure => simp [intOf] <;> omega
          · obtain rfl : n = d.crs.length := by omega
            have hme := mxF_all (fun x => revC (inB d pt x.a) (inB d pt x.b) x) d.crs
            have r5' : Ow codCr 73 wr (w.heap.size + 2) (.slice A2 d.crs.length c2) (revD d pt).crs := by have h := r5; rw [hme] at h; exact h
            clear hme
            obtain ⟨b0, b1, b2, b3⟩ := rb.two
            go_wp2_with fail
            refine bodyPost_ret (v := .tuple #[.agg #[.slice A2 d.crs.length c2, .int .i64 d.loops], .int .i64 0]) (by simp [results, Try.results29, go_sem, *]) rfl ?_
            exact .inr ⟨hb1.out, _, by rw [hres.out], by rw [hres.out]; exact IsDg.of_rv (d := revD d pt) (Ow.rv (E := 73) (base := w.heap.size + 2) (by repeat (with_reducible (first | exact r5' | refine Ow.al ?_ _ | refine Ow.drew ?_ | refine Ow.setLow ?_ (by first | assumption | (simp; done) | (simp; omega)) _))) (by show _ * 40 ≤ _; simp [revD]; omega)), (by repeat (with_reducible (first | exact hkw | refine Kp.alloc ?_ _ | refine Kp.drew ?_ | refine Kp.drewN ?_ _ | refine Kp.setCell ?_ (by first | assumption | (simp; done) | (simp; omega)) _)))⟩
end Go.Proofs.Ytlbpgnimpcflaaa
