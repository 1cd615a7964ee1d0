/- Dowker's code: the program's. -/
import Derived.Test.YtlbpgnimpcflaaaDow0
import Derived.Test.YtlbpgnimpcflaaaGau4
namespace Go.Proofs.Ytlbpgnimpcflaaa
open Go.ChangeShapes Go.WideShapes Go.ChangeAt Go.RowKit

def dowV (d : Dg) : List Vi := ga (visL d) 0
def dowC (d : Dg) : List Int × Int :=
  if (strandsL d).length = 1 ∧ d.loops ≤ 0 then
    match dowP (dowO (dowV d) d.crs.length (2 * d.crs.length)) (dowE (dowV d) d.crs.length (2 * d.crs.length)) d.crs.length d.crs.length with
    | some out => (out, 0)
    | none => ([], 5)
  else ([], 9)
theorem dowV_two {d : Dg} (h : arcsB d = true) (h1 : (strandsL d).length = 1) : Vis2 (dowV d) d.crs.length ∧ dowV d = (ga (strandsL d) 0).map (visA d) := by
  match hs : strandsL d, h1 with
  | [r], _ =>
    have e : dowV d = r.map (visA d) := by unfold dowV visL; rw [hs]; rfl
    rw [e]
    exact ⟨vis2_strand h hs, rfl⟩
def DowPost (b : Bool) (c : List Int × Int) (w : World) (e : Ending) (w' : World) : Prop :=
  (b = false ∧ e = .returned (.tuple #[.slice none 0 0, .int .i64 7]) ∧ Kp w w') ∨ (b = true ∧ ∃ v, e = .returned (.tuple #[v, .int .i64 c.2]) ∧ Ints w' w'.heap.size v c.1 ∧ Kp w w')

theorem dowC_no {d : Dg} (h : ¬ ((strandsL d).length = 1 ∧ d.loops ≤ 0)) : dowC d = ([], 9) := if_neg h
theorem dowC_yes {d : Dg} (h : (strandsL d).length = 1 ∧ d.loops ≤ 0) {out : List Int} (ho : dowP (dowO (dowV d) d.crs.length (2 * d.crs.length)) (dowE (dowV d) d.crs.length (2 * d.crs.length)) d.crs.length d.crs.length = some out) : dowC d = (out, 0) := by
  unfold dowC; rw [if_pos h, ho]
theorem dowC_plane {d : Dg} (h : (strandsL d).length = 1 ∧ d.loops ≤ 0) (ho : dowP (dowO (dowV d) d.crs.length (2 * d.crs.length)) (dowE (dowV d) d.crs.length (2 * d.crs.length)) d.crs.length d.crs.length = none) : dowC d = ([], 5) := by
  unfold dowC; rw [if_pos h, ho]
theorem dowP_step {O E : List Int} {N m : Nat} {out : List Int} (h : dowP O E N m = some out) (h1 : gi O m ≠ 0) (h2 : gi E m ≠ 0) : dowP O E N (m + 1) = some (out.set (gi O m / 2).toNat (gi E m)) := by
  unfold dowP; rw [h]; dsimp only; rw [if_neg (by omega)]
theorem rep0 (n : Nat) : List.replicate n (0 : Int) = List.replicate n (0 : Int) := rfl
theorem ownI_made {w : World} {g base n : Nat} (h : Blk w g 3 (madeCells #[Value.int .i64 0] n)) (hb : base ≤ g) (hm : n ≤ maxLen) : OwnI w base (.slice (some ⟨g, 0, none⟩) n n) (List.replicate n 0) := by
  refine OwnI.of_ow (Ow.made (C := codI) (z := .int .i64 0) rfl ?_ hb hm)
  have e : n * codI.k = n := Nat.mul_one _
  rw [e]
  exact h
theorem gr_setp {a b : World} {p : Addr} (h : Gr a b (some p.block)) (u : Value) : Gr a (b.setCell p u) (some p.block) :=
  ⟨h.os, h.tape, h.output, by simpa [World.setCell] using h.size, fun k hk hn => (Below.heap_setCell b p u k (fun e => hn (by rw [e]))).trans (h.block k hk hn)⟩
theorem OwnI.far {w : World} {base : Nat} {A : Option Addr} {n c : Nat} {xs : List Int} (h : OwnI w base (.slice A n c) xs) {p : Addr} (hne : ∀ a, A = some a → a.block ≠ p.block) (u : Value) : OwnI (w.setCell p u) base (.slice A n c) xs := by
  refine h.kept (gr_setp (gr_refl w (some p.block)) u) ?_
  rcases A with _ | a
  · exact .inl rfl
  · right
    simp only [Value.ownBlock]
    intro e
    injection e with e
    exact hne a rfl e

theorem OwnI.al {w : World} {base : Nat} {v : Value} {xs : List Int} (h : OwnI w base v xs) (o : Obj) : OwnI (w.alloc o) base v xs := h.kp ((Kp.refl w).alloc o)
theorem OwnI.dr {w : World} {base : Nat} {v : Value} {xs : List Int} (h : OwnI w base v xs) : OwnI w.drew base v xs := h

set_option maxRecDepth 100000 in
set_option maxHeartbeats 8000000 in
theorem dowker_any (v : Value) (d : Dg) (w : World) (hd : IsDg w w.heap.size v d) : Calls Try.prog 26 #[v] w (DowPost (mayB d) (dowC d) w) := by
  obtain ⟨A, cap, rfl, hcap, hr⟩ := hd
  have hb := Lib.hid fun w' (hk : Kp w w') => new_any (.agg #[.slice A d.crs.length cap, .int .i64 d.loops]) d w' ⟨A, cap, rfl, hcap, hr.kp hk⟩
  have hm := Lib.hid (may_arcs (d := d))
  clear hr
  generalize mayB d = b at *
  go_enter Try.func26, Try.ntmps26
  go_wp2_with fail
  refine (hb.out _ ((Kp.refl _).alloc _)).mono ?_
  rintro e w1 (⟨hb0, rfl, hk⟩ | ⟨hb1, v, rfl, hk, hs⟩)
  · have hb0' := Lib.hid hb0
    clear hb0
    go_wp2_with fail
    go_ret2
    exact .inl ⟨hb0'.out, rfl, hk.al⟩
  · obtain ⟨hn, ha⟩ := hm.out hb1
    have hvi := Lib.hid fun w' (hk : Kp w1 w') => visits_any v d w' _ (hs.kp hk) hn ha
    have hb1' := Lib.hid hb1
    have hA := Lib.hid ha
    have hS := Lib.hid hs
    have hx1 := Lib.hid ((Blk.new w 27 #[.slice A d.crs.length cap, .int .i64 d.loops]).kp hk)
    clear hb1 ha hs hb hm
    go_wp2_with fail
    refine (hvi.out _ (Kp.refl _)).mono ?_; rintro e w2 ⟨v2, rfl, hv2, hk2⟩
    obtain ⟨vs, l1, ⟨A2, c2, rfl, hc2, hrd⟩, hin⟩ := hv2
    have hln : Hid ((visL d).length = (strandsL d).length) := by rw [Hid]; simp [visL]
    obtain ⟨x0, x1, x2, x3⟩ := (hx1.out.kp hk2).two
    have hkw2 : Kp w w2 := hk.al.trans hk2
    by_cases hl1 : vs.length = 1
    · by_cases hlo : d.loops ≤ 0
      · have hcond : Hid ((strandsL d).length = 1 ∧ d.loops ≤ 0) := ⟨by rw [← hln.out, ← l1]; exact hl1, hlo⟩
        obtain ⟨hV, hVe⟩ := dowV_two hA.out hcond.out.1
        obtain ⟨b5, off5, rfl, hb5, hcell⟩ := vAt hrd (i := 0) (by omega)
        obtain ⟨A3, c3, hv3, hc3, hr3⟩ := hin 0 (by omega)
        rw [hv3] at hcell
        have hvl : (ga (visL d) 0).length = 2 * d.crs.length := hV.len
        rw [hvl] at hcell hc3
        replace hr3 := Lib.hid hr3
        replace hV := Lib.hid hV
        have hq1 : Hid (dowV d = ga (visL d) 0) := rfl
        obtain ⟨g, A5, cp5, gi5, go5, rfl, lg, lgi, lgo, s0, s1, s2, s3, -, -, -⟩ := (hS.out.kp hk2).look hn
        have hmk := fun W => make_of slInt d.crs.length (d.crs.length : Int) rfl (by omega) W
        have t1 : (((vs.length : Int) != 1) : Bool) = false := by simp only [bne_eq_false_iff_eq]; omega
        have t2 : (decide (d.loops > 0)) = false := by simp; omega
        have hvl' := Lib.hid hvl
        have hl0 : 0 < vs.length := by omega
        clear hv3 hrd hin hvi hVe l1 hl1 hlo hvl
        go_upto_region 7 with (fail)
        go_cut [7, 8] (fun o e wx => ∃ p q : Nat, o = .slice (some ⟨p, 0, none⟩) d.crs.length d.crs.length ∧ e = .slice (some ⟨q, 0, none⟩) d.crs.length d.crs.length ∧ p ≠ q ∧ Kp w2 wx ∧
          OwnI wx w2.heap.size (.slice (some ⟨p, 0, none⟩) d.crs.length d.crs.length) (List.replicate d.crs.length 0) ∧ OwnI wx w2.heap.size (.slice (some ⟨q, 0, none⟩) d.crs.length d.crs.length) (List.replicate d.crs.length 0))
        case first =>
          go_region_held3 (fun W => W.cell? ⟨g, 0, none⟩ = some (.slice A5 d.crs.length cp5)) (go_keep) (fail)
          all_goals
            go_wp2_with fail
            go_meet
          case rel =>
            exact ⟨_, _, rfl, rfl, by simp, (((Kp.refl _).alloc _).alloc _).drew, ownI_made (((Blk.new w2 3 _).alloc _).drew) (by omega) (by unfold maxLen; omega), ownI_made (Blk.drew (Blk.new' _ _ _ (by simp))) (by simp) (by unfold maxLen; omega)⟩
          case rel =>
            exact ⟨_, _, rfl, rfl, by simp, (((Kp.refl _).alloc _).alloc _).drew, ownI_made (Blk.drew (Blk.new' _ _ _ (by simp))) (by simp) (by unfold maxLen; omega), ownI_made (((Blk.new w2 3 _).alloc _).drew) (by omega) (by unfold maxLen; omega)⟩
        case rest =>
          obtain ⟨p, q, rfl, rfl, hpq, hkc, hO, hE⟩ := hcut
          have hk3 := hkc.c hcell
          clear hcell
          have hcell : wc.cell? ⟨b5, off5, none⟩ = some (.slice A3 (2 * d.crs.length) c3) := hk3
          clear hk3 x0 x1 x2 x3 s0 s1 s2 s3 hmk t1 t2
          have hr4 := Lib.hid (hr3.out.kp hkc)
          go_wp2_with fail
          go_loopw [49] (fun i wr => ∃ m : Nat, m ≤ 2 * d.crs.length ∧ i = .int .i64 m ∧ Kp w2 wr ∧ OwnI wr w2.heap.size (.slice (some ⟨p, 0, none⟩) d.crs.length d.crs.length) (dowO (dowV d) d.crs.length m) ∧ OwnI wr w2.heap.size (.slice (some ⟨q, 0, none⟩) d.crs.length d.crs.length) (dowE (dowV d) d.crs.length m)) (fun i _ => 2 * d.crs.length - (intOf i).toNat)
          case atStart => exact ⟨0, Nat.zero_le _, rfl, hkc, hO, hE⟩
          case round =>
            clear hO hE hcell hr4 hkc
            obtain ⟨m, hm, rfl, hk3, hO, hE⟩ := hrel
            by_cases hlt : m < 2 * d.crs.length
            · obtain ⟨b6, off6, rfl, hb6, i0, i1⟩ := viAt (hr3.out.kp hk3) (i := m) (by rw [hvl'.out]; exact hlt)
              have hvr := hV.out.rng m hlt
              have hOs : dowO (dowV d) d.crs.length (m + 1) = if m % 2 = 0 then (dowO (dowV d) d.crs.length m).set (Go.Proofs.Ytlbpgnimpcflaaa.ga (dowV d) m).c.toNat ((m : Int) + 1) else dowO (dowV d) d.crs.length m := rfl
              have hEs : dowE (dowV d) d.crs.length (m + 1) = if m % 2 = 0 then dowE (dowV d) d.crs.length m else (dowE (dowV d) d.crs.length m).set (Go.Proofs.Ytlbpgnimpcflaaa.ga (dowV d) m).c.toNat (if (Go.Proofs.Ytlbpgnimpcflaaa.ga (dowV d) m).o = true then -((m : Int) + 1) else (m : Int) + 1) := rfl
              have hLO := dowO_len (dowV d) d.crs.length m
              have hLE := dowE_len (dowV d) d.crs.length m
              rw [← hq1.out] at i0 i1
              generalize dowO (dowV d) d.crs.length m = O0 at *
              generalize dowE (dowV d) d.crs.length m = E0 at *
              generalize Go.Proofs.Ytlbpgnimpcflaaa.ga (dowV d) m = y at *
              obtain ⟨yc, yo⟩ := y
              dsimp only at *
              obtain ⟨c, rfl⟩ := Int.eq_ofNat_of_zero_le hvr.1
              have hc : c < d.crs.length := by omega
              have cO := hO.cell (i := c) (by omega)
              have cE := hE.cell (i := c) (by omega)
              replace hOs := Lib.hid hOs
              replace hEs := Lib.hid hEs
              replace hLO := Lib.hid hLO
              replace hLE := Lib.hid hLE
              clear hvr
              have hz := hk3.size
              obtain ⟨hp1, hp2⟩ := hO.lt p rfl
              obtain ⟨hq1', hq2'⟩ := hE.lt q rfl
              have fO := hO.free c
              have fE := hE.free c
              by_cases h2 : m % 2 = 0
              · have t3 : ((((m : Int) + 1) % 2 == 1) : Bool) = true := by rw [beq_iff_eq]; omega
                have hOs' : Hid (dowO (dowV d) d.crs.length (m + 1) = O0.set c ((m : Int) + 1)) := by rw [Hid, hOs.out, if_pos h2]; rfl
                have hEs' : Hid (dowE (dowV d) d.crs.length (m + 1) = E0) := by rw [Hid, hEs.out, if_pos h2]
                clear hOs hEs h2
                go_wp2_with fail
                go_roundw
                case rel => exact ⟨m + 1, by omega, by go_num, (by repeat (with_reducible (first | exact hk3 | refine Kp.alloc ?_ _ | refine Kp.drew ?_ | refine Kp.drewN ?_ _ | refine Kp.setCell ?_ (by first | assumption | (simp; done) | (simp; omega)) _))), by rw [hOs'.out]; exact (by repeat (with_reducible (first | exact hO | refine OwnI.al ?_ _ | refine OwnI.dr ?_ | refine OwnI.set_ ?_ _ _ | refine OwnI.far ?_ (by intro a e; injection e with e; subst e; dsimp only; first | assumption | (apply Ne.symm; assumption) | omega) _))), by rw [hEs'.out]; exact (by repeat (with_reducible (first | exact hE | refine OwnI.al ?_ _ | refine OwnI.dr ?_ | refine OwnI.set_ ?_ _ _ | refine OwnI.far ?_ (by intro a e; injection e with e; subst e; dsimp only; first | assumption | (apply Ne.symm; assumption) | omega) _)))⟩
                case measure => simp [intOf] <;> omega
              · have t3 : ((((m : Int) + 1) % 2 == 1) : Bool) = false := by rw [beq_eq_false_iff_ne]; omega
                have hOs' : Hid (dowO (dowV d) d.crs.length (m + 1) = O0) := by rw [Hid, hOs.out, if_neg h2]
                have hEs' : Hid (dowE (dowV d) d.crs.length (m + 1) = E0.set c (if yo = true then -((m : Int) + 1) else (m : Int) + 1)) := by rw [Hid, hEs.out, if_neg h2]; rfl
                clear hOs hEs h2
                cases yo
                · go_wp2_with fail
                  go_roundw
                  case rel => exact ⟨m + 1, by omega, by go_num, (by repeat (with_reducible (first | exact hk3 | refine Kp.alloc ?_ _ | refine Kp.drew ?_ | refine Kp.drewN ?_ _ | refine Kp.setCell ?_ (by first | assumption | (simp; done) | (simp; omega)) _))), by rw [hOs'.out]; exact (by repeat (with_reducible (first | exact hO | refine OwnI.al ?_ _ | refine OwnI.dr ?_ | refine OwnI.set_ ?_ _ _ | refine OwnI.far ?_ (by intro a e; injection e with e; subst e; dsimp only; first | assumption | (apply Ne.symm; assumption) | omega) _))), by rw [hEs'.out, if_neg (by simp)]; exact (by repeat (with_reducible (first | exact hE | refine OwnI.al ?_ _ | refine OwnI.dr ?_ | refine OwnI.set_ ?_ _ _ | refine OwnI.far ?_ (by intro a e; injection e with e; subst e; dsimp only; first | assumption | (apply Ne.symm; assumption) | omega) _)))⟩
                  case measure => simp [intOf] <;> omega
                · go_wp2_with fail
                  go_roundw
                  case rel => exact ⟨m + 1, by omega, by go_num, (by repeat (with_reducible (first | exact hk3 | refine Kp.alloc ?_ _ | refine Kp.drew ?_ | refine Kp.drewN ?_ _ | refine Kp.setCell ?_ (by first | assumption | (simp; done) | (simp; omega)) _))), by rw [hOs'.out]; exact (by repeat (with_reducible (first | exact hO | refine OwnI.al ?_ _ | refine OwnI.dr ?_ | refine OwnI.set_ ?_ _ _ | refine OwnI.far ?_ (by intro a e; injection e with e; subst e; dsimp only; first | assumption | (apply Ne.symm; assumption) | omega) _))), by rw [hEs'.out, if_pos rfl]; exact (by repeat (with_reducible (first | exact hE | refine OwnI.al ?_ _ | refine OwnI.dr ?_ | refine OwnI.set_ ?_ _ _ | refine OwnI.far ?_ (by intro a e; injection e with e; subst e; dsimp only; first | assumption | (apply Ne.symm; assumption) | omega) _)))⟩
                  case measure => simp [intOf] <;> omega
            · obtain rfl : m = 2 * d.crs.length := by omega
              have hmk := fun W => make_of slInt d.crs.length (d.crs.length : Int) rfl (by omega) W
              obtain ⟨g', A6, cp6, gi6, go6, hp', lg', lgi', lgo', r0, r1, r2, r3, -, -, -⟩ := (hS.out.kp (hk2.trans hk3)).look hn
              injection hp' with hp'
              injection hp' with hp'
              injection hp' with hp'
              subst hp'
              go_wp2_with fail
              have hz := hk3.size
              obtain ⟨wo, rfl⟩ : ∃ wo : World, wo = wr := ⟨_, rfl⟩
              go_loopw [93] (fun i wr => ∃ (c : Nat) (out : List Int), c ≤ d.crs.length ∧ i = .int .i64 c ∧ Hid (dowP (dowO (dowV d) d.crs.length (2 * d.crs.length)) (dowE (dowV d) d.crs.length (2 * d.crs.length)) d.crs.length c = some out) ∧ out.length = d.crs.length ∧ Kp wo wr ∧
                OwnI wr wo.heap.size (.slice (some ⟨wo.heap.size, 0, none⟩) d.crs.length d.crs.length) out) (fun i _ => d.crs.length - (intOf i).toNat)
              case atStart => exact ⟨0, _, Nat.zero_le _, rfl, rfl, by simp, (Kp.refl _).alloc _, ownI_made (Blk.new _ _ _) (Nat.le_refl _) (by unfold maxLen; omega)⟩
              case round =>
                obtain ⟨c, out, hc, rfl, hP, hol, hk4, hR⟩ := hrel
                replace hol := Lib.hid hol
                have hO4 := hO.kp hk4
                have hE4 := hE.kp hk4
                have hz4 := hk4.size
                have hRlt := hR.lt wo.heap.size rfl
                by_cases hlt2 : c < d.crs.length
                · have hLO := dowO_len (dowV d) d.crs.length (2 * d.crs.length)
                  have hLE := dowE_len (dowV d) d.crs.length (2 * d.crs.length)
                  have cO := hO4.cell (i := c) (by omega)
                  have cE := hE4.cell (i := c) (by omega)
                  have hat := dowO_at hV.out.rng c hlt2 (2 * d.crs.length) (Nat.le_refl _)
                  have hres := Lib.hid (fun h => dowC_plane hcond.out (dowP_none (N := d.crs.length) (O := dowO (dowV d) d.crs.length (2 * d.crs.length)) (E := dowE (dowV d) d.crs.length (2 * d.crs.length)) h hlt2))
                  have hstep := Lib.hid (fun h1 h2 => dowP_step hP.out h1 h2)
                  have hXb : gi (dowO (dowV d) d.crs.length (2 * d.crs.length)) c = 0 ∨ ∃ X : Nat, gi (dowO (dowV d) d.crs.length (2 * d.crs.length)) c = (X : Int) ∧ 1 ≤ X ∧ X / 2 < d.crs.length := by
                    rcases hat with ⟨h, _⟩ | ⟨i, h1, h2, _, h4⟩
                    · exact .inl h
                    · exact .inr ⟨i + 1, by rw [h4]; rfl, by omega, by omega⟩
                  clear hat hLO hLE
                  replace hO := Lib.hid hO
                  replace hE := Lib.hid hE
                  replace hO4 := Lib.hid hO4
                  replace hE4 := Lib.hid hE4
                  replace hk3 := Lib.hid hk3
                  replace hR := Lib.hid hR
                  replace hP := Lib.hid hP
                  generalize gi (dowO (dowV d) d.crs.length (2 * d.crs.length)) c = x at *
                  generalize gi (dowE (dowV d) d.crs.length (2 * d.crs.length)) c = y at *
                  have hkk : Hid (Kp w wr) := hkw2.trans (hk3.out.trans hk4)
                  rcases hXb with rfl | ⟨X, rfl, hX1, hX2⟩
                  · go_wp2_with fail
                    go_ret2
                    exact .inr ⟨hb1'.out, _, by rw [hres.out (by simp)]; rfl, by rw [hres.out (by simp)]; exact ⟨none, 0, rfl, Nat.le_refl _, IntsA.nil_⟩, hkk.out⟩
                  · have t3 : (((X : Int) == 0) : Bool) = false := by rw [beq_eq_false_iff_ne]; omega
                    by_cases hy : y = 0
                    · subst hy
                      go_wp2_with fail
                      go_ret2
                      exact .inr ⟨hb1'.out, _, by rw [hres.out (by simp)]; rfl, by rw [hres.out (by simp)]; exact ⟨none, 0, rfl, Nat.le_refl _, IntsA.nil_⟩, hkk.out⟩
                    · have t4 : ((y == 0) : Bool) = false := by rw [beq_eq_false_iff_ne]; exact hy
                      replace hy := Lib.hid hy
                      have cR := hR.out.cell (i := X / 2) (by rw [hol.out]; exact hX2)
                      have fR := hR.out.free (X / 2)
                      go_wp2_with fail
                      go_region
                      all_goals
                        go_wp2_with fail
                        go_roundw
                        case rel => exact ⟨c + 1, out.set (X / 2) y, by omega, by go_num, by rw [Hid]; have h := hstep.out (by omega) hy.out; rwa [show ((X : Int) / 2).toNat = X / 2 by omega] at h, by simp [hol.out], (by repeat (with_reducible (first | exact hk4 | refine Kp.alloc ?_ _ | refine Kp.drew ?_ | refine Kp.drewN ?_ _ | refine Kp.setCell ?_ (by first | assumption | (simp; done) | (simp; omega)) _))), (by repeat (with_reducible (first | exact hR.out | refine OwnI.al ?_ _ | refine OwnI.dr ?_ | refine OwnI.set_ ?_ _ _ | refine OwnI.far ?_ (by intro a e; injection e with e; subst e; dsimp only; first | assumption | (apply Ne.symm; assumption) | omega) _)))⟩
                        case measure => simp [intOf] <;> omega
                · obtain rfl : c = d.crs.length := by omega
                  have hres := Lib.hid (dowC_yes hcond.out hP.out)
                  go_wp2_with fail
                  go_ret2
                  exact .inr ⟨hb1'.out, _, by rw [hres.out]; rfl, by rw [hres.out]; exact hR.ints (by rw [hol.out]; omega), hkw2.trans (hk3.trans hk4)⟩
      · have t1 : (((vs.length : Int) != 1) : Bool) = false := by simp only [bne_eq_false_iff_eq]; omega
        have t2 : (decide (d.loops > 0)) = true := by simp; omega
        have hres := Lib.hid (dowC_no (d := d) fun h => hlo h.2)
        clear hlo hl1 l1 hrd hin
        go_wp2_with fail
        go_ret2
        exact .inr ⟨hb1'.out, _, by rw [hres.out]; rfl, by rw [hres.out]; exact ⟨none, 0, rfl, Nat.le_refl _, IntsA.nil_⟩, hkw2⟩
    · have t1 : (((vs.length : Int) != 1) : Bool) = true := by simp only [bne_iff_ne, ne_eq]; omega
      have hres := Lib.hid (dowC_no (d := d) fun h => hl1 (by rw [l1, hln.out]; exact h.1))
      clear hl1 l1 hrd hin
      go_wp2_with fail
      go_ret2
      exact .inr ⟨hb1'.out, _, by rw [hres.out]; rfl, by rw [hres.out]; exact ⟨none, 0, rfl, Nat.le_refl _, IntsA.nil_⟩, hkw2⟩
end Go.Proofs.Ytlbpgnimpcflaaa
