/- Strands: the program's, and the reference's. -/
import Derived.Test.YtlbpgnimpcflaaaRng1
namespace Go.Proofs.Ytlbpgnimpcflaaa
open Go.ChangeShapes Go.WideShapes Go.ChangeAt Go.RowKit

set_option maxRecDepth 100000 in
set_option maxHeartbeats 1000000 in
theorem strands_own (v : Value) (d : Dg) (w : World) (b0 : Nat) (hs : IsSh w b0 v d) (hn : d.crs.length ≤ 16) (ha : arcsB d = true) : Calls Try.prog 59 #[v] w (IssOw (strandsL d) w) := by
  have h := Lib.hid fun w' hk => rings_own v d w' b0 (IsSh.kp hs hk) hn ha
  clear hs ha
  go_enter Try.func59, Try.ntmps59
  go_wp2_with fail
  refine (h.out _ (Kp.refl _)).mono ?_; rintro e w1 ⟨v', rfl, hi, hl, hk⟩
  go_wp2_with fail
  go_ret
  exact ⟨_, rfl, hi, hl, hk⟩
theorem strands_any (v : Value) (d : Dg) (w : World) (b0 : Nat) (hs : IsSh w b0 v d) (hn : d.crs.length ≤ 16) (ha : arcsB d = true) : Calls Try.prog 59 #[v] w (IssPost (strandsL d) w) :=
  (strands_own v d w b0 hs hn ha).mono fun _ _ => IssOw.post

theorem Rd.gr {α : Type} {C : Cod α} {w w' : World} {B : Nat} {A : Option Addr} {xs : List α} {row : Option Nat} (h : Rd C w B A xs) (hg : Gr w w' row) (hB : B ≤ w.heap.size) (hr : ∀ g, row = some g → B ≤ g) : Rd C w' B A xs :=
  Sl.keep h fun p hp => World.cell?_of_block (hg.block p.block (by omega) (fun e => by have := hr _ e.symm; omega))
theorem Rd.setc {α : Type} {C : Cod α} {w : World} {B : Nat} {A : Option Addr} {xs : List α} (h : Rd C w B A xs) {p : Addr} (hp : B ≤ p.block) (u : Value) : Rd C (w.setCell p u) B A xs :=
  Sl.keep h fun q hq => World.cell?_setCell_other w p q u (fun e => by subst e; omega)

set_option maxRecDepth 100000 in
set_option maxHeartbeats 4000000 in
theorem strandsOf_any (v : Value) (d : Dg) (w : World) (hd : IsDg w w.heap.size v d) (hn : d.crs.length ≤ 16) (ha : arcsB d = true) :
    Calls Try.prog 21 #[v] w (IssPost (strandsL d) w) := by
  obtain ⟨A, cap, rfl, hcap, hr⟩ := hd
  have hd : ∀ w', Rd codCr w' w'.heap.size A d.crs → IsDg w' w'.heap.size (.agg #[.slice A d.crs.length cap, .int .i64 d.loops]) d := fun w' h => ⟨A, cap, rfl, hcap, h⟩
  have HD := Lib.hid hd
  have hA := Lib.hid ha
  have hrr := Lib.hid hr
  have hm2 := fun W => make_of slBool (2 * d.crs.length + 1) (2 * (d.crs.length : Int) + 1) (by omega) (by omega) W
  clear hd ha hr
  go_enter Try.func21, Try.ntmps21
  go_wp2_with fail
  have q0 : Ow codB 4 ((w.alloc (.cells #[.slice A d.crs.length cap, .int .i64 d.loops] 27)).alloc (.cells (madeCells #[Value.bool false] (2 * d.crs.length + 1)) 4)) (w.heap.size + 1) (.slice (some ⟨w.heap.size + 1, 0, none⟩) (2 * d.crs.length + 1) (2 * d.crs.length + 1)) (List.replicate (2 * d.crs.length + 1) false) := by
    refine Ow.made (C := codB) (z := .bool false) rfl ?_ (Nat.le_refl _) (by unfold maxLen; omega)
    have e : (2 * d.crs.length + 1) * codB.k = 2 * d.crs.length + 1 := Nat.mul_one _
    rw [e]
    exact Blk.new' _ _ _ (by simp)
  have x0 := (Blk.new w 27 #[.slice A d.crs.length cap, .int .i64 d.loops]).alloc (.cells (madeCells #[Value.bool false] (2 * d.crs.length + 1)) 4)
  go_loopw [5, 6] (fun o i wr => ∃ n : Nat, n ≤ 2 * d.crs.length ∧ i = .int .i64 ((n : Int) + 1) ∧ Kp w wr ∧ Blk wr w.heap.size 27 #[.slice A d.crs.length cap, .int .i64 d.loops] ∧
    Ow codB 4 wr (w.heap.size + 1) (.slice (some ⟨w.heap.size + 1, 0, none⟩) (2 * d.crs.length + 1) (2 * d.crs.length + 1)) (ringsF (nextN d) (2 * d.crs.length + 1) n).1 ∧
    Or wr (w.heap.size + 1) o (ringsF (nextN d) (2 * d.crs.length + 1) n).2 ∧ (ringsF (nextN d) (2 * d.crs.length + 1) n).2.length ≤ n) (fun _ i _ => (2 * (d.crs.length : Int) + 1 - intOf i).toNat)
  case atStart => exact ⟨0, Nat.zero_le _, rfl, ((Kp.refl _).alloc _).alloc _, x0, q0, Or.nil_, Nat.le_refl _⟩
  case round =>
    clear q0 hm2 x0
    obtain ⟨n, hn2, rfl, hk, hB, hq, ho, hol⟩ := hrel
    have hlen := ringsF_len (nextN d) (2 * d.crs.length + 1) n
    by_cases hlt : n < 2 * d.crs.length
    · have td : decide ((n : Int) + 1 ≤ 2 * (d.crs.length : Int)) = true := by simp; omega
      generalize hs0 : (ringsF (nextN d) (2 * d.crs.length + 1) n).1 = seen0 at *
      have hR : Hid (ringsF (nextN d) (2 * d.crs.length + 1) (n + 1) = if ga seen0 (n + 1) = true then ringsF (nextN d) (2 * d.crs.length + 1) n else ((ringF (nextN d) seen0 (n + 1) []).1, (ringsF (nextN d) (2 * d.crs.length + 1) n).2 ++ [(ringF (nextN d) seen0 (n + 1) []).2])) := by rw [← hs0]; rfl
      have hs0' := Lib.hid hs0
      clear hs0
      obtain ⟨wo, rfl⟩ : ∃ wo : World, wo = wr := ⟨_, rfl⟩
      go_wp2_with fail
      go_loopw [7, 8] (fun r i wr => ∃ (x : Nat) (seen : List Bool) (acc : List Int), 1 ≤ x ∧ x ≤ 2 * d.crs.length ∧ i = .int .i64 x ∧ Hid (ringF (nextN d) seen x acc = ringF (nextN d) seen0 (n + 1) []) ∧ seen.length = 2 * d.crs.length + 1 ∧
        Ow codB 4 wr (w.heap.size + 1) (.slice (some ⟨w.heap.size + 1, 0, none⟩) (2 * d.crs.length + 1) (2 * d.crs.length + 1)) seen ∧ OwnI wr wo.heap.size r acc ∧ acc.length + free seen ≤ 2 * d.crs.length + 1 ∧ Gr wo wr (some (w.heap.size + 1)) ∧ Hid ((acc = [] ∧ seen = seen0 ∧ x = n + 1) ∨ (0 < acc.length ∧ ga seen0 (n + 1) = false))) (fun r _ _ => 2 * d.crs.length + 1 - lenV r)
      case atStart => exact ⟨n + 1, seen0, [], by omega, by omega, by go_num, rfl, hlen, hq, OwnI.nil_, by have : free seen0 ≤ seen0.length := List.countP_le_length; simp; omega, gr_refl _ _, .inl ⟨rfl, rfl, rfl⟩⟩
      case round =>
        obtain ⟨x, seen, acc, hx0, hx1, rfl, hring, hsl, hq2, hoi, hfr, hgr, hcase⟩ := hrel
        have cs := hq2.cell (i := x) (by rw [hsl]; omega) (j := 0) (by decide) rfl
        have cs : wr.cell? ⟨w.heap.size + 1, x, none⟩ = some (.bool (Go.Proofs.Ytlbpgnimpcflaaa.ga seen x)) := by simpa [codB] using cs
        have cf := hq2.free x
        obtain ⟨A2, c2, rfl, hc2⟩ := hoi.sl
        have hz := hgr.size
        have hz1 := hk.size
        have hq1lt := hq.lt (w.heap.size + 1) rfl
        have hBr : Blk wr w.heap.size 27 #[.slice A d.crs.length cap, .int .i64 d.loops] := hB.gr hgr (by simp)
        have r2 : Rd codCr wr w.heap.size A d.crs := (hrr.out.below hk.below).gr hgr hz1 (by intro g e; injection e with e; omega)
        cases hgx : Go.Proofs.Ytlbpgnimpcflaaa.ga seen x
        · rw [hgx] at cs
          have hfs := free_set (seen := seen) (x := x) (by rw [hsl]; omega) hgx
          have hst := Lib.hid (hring.out.symm.trans (ringF_go (nx := nextN d) (acc := acc) (by rw [hsl]; omega) hgx))
          have hcase' : Hid (Go.Proofs.Ytlbpgnimpcflaaa.ga seen0 (n + 1) = false) := by
            rcases hcase.out with ⟨_, rfl, rfl⟩ | h
            · exact hgx
            · exact h.2
          clear hgx hring hcase
          have q1 := hq2.set_ (i := x) (by rw [hsl]; omega) (j := 0) (by decide) (.bool true) true rfl
          have q1 : Ow codB 4 (wr.setCell ⟨w.heap.size + 1, x, none⟩ (.bool true)) (w.heap.size + 1) (.slice (some ⟨w.heap.size + 1, 0, none⟩) (2 * d.crs.length + 1) (2 * d.crs.length + 1)) (seen.set x true) := by simpa [codB] using q1
          obtain ⟨hnx, hnx0, hnx1⟩ := nextN_eq hA.out hx0 hx1
          obtain ⟨e1, e2, _, _, _⟩ := endOf_lt hA.out hx0 hx1 false
          have hoi' : OwnI (wr.setCell ⟨w.heap.size + 1, x, none⟩ (.bool true)) wo.heap.size (.slice A2 acc.length c2) acc := hoi.kept (gr_set1 _) ((ownI_ow hoi).ne_ hq2 (by decide))
          have hnx' : Hid (arcAt d (endOf d x false).1 (((endOf d x false).2 + 2) % 4) = (nextN d x : Int)) := hnx
          clear hnx
          have hBs : Blk (wr.setCell ⟨w.heap.size + 1, x, none⟩ (.bool true)) w.heap.size 27 #[.slice A d.crs.length cap, .int .i64 d.loops] := hBr.far (p := ⟨w.heap.size + 1, x, none⟩) (by simp) _
          have r3 := r2.setc (p := ⟨w.heap.size + 1, x, none⟩) (by simp) (.bool true)
          go_wp2_with (at_builtin; refine push_int rfl _ _ rfl hoi' rfl rfl (by simp) (by omega) (by simp; omega) ?_; intro v' w3 ho3 hg3 _; obtain ⟨z0, z1, z2, z3⟩ := (hBs.gr hg3 (fun e => by have := (hoi'.lt w.heap.size e.symm).1; omega)).two)
          have hBw := (hBs.gr hg3 (fun e => by have := (hoi'.lt w.heap.size e.symm).1; omega))
          have hs3 : wr.heap.size ≤ w3.heap.size := by have := hg3.size; simpa [World.setCell] using this
          have r4 : Rd codCr w3 w.heap.size A d.crs := r3.gr hg3 (by simp; omega) (fun g e => by have := (hoi'.lt g e).1; omega)
          have hgr2 : Gr wo (wr.setCell ⟨w.heap.size + 1, x, none⟩ (.bool true)) (some (w.heap.size + 1)) := gr_setCell hgr _ _
          have hgr3 : Gr wo w3 (some (w.heap.size + 1)) := ⟨hg3.os.trans hgr2.os, hg3.tape.trans hgr2.tape, hg3.output.trans hgr2.output, Nat.le_trans hgr2.size hg3.size, fun k hk hne => (hg3.block k (Nat.lt_of_lt_of_le hk hgr2.size) (fun e => by have := (hoi'.lt k e.symm).1; omega)).trans (hgr2.block k hk hne)⟩
          have q3 : Ow codB 4 w3 (w.heap.size + 1) (.slice (some ⟨w.heap.size + 1, 0, none⟩) (2 * d.crs.length + 1) (2 * d.crs.length + 1)) (seen.set x true) := q1.kept hg3 (q1.ne_ (ownI_ow hoi') (by decide))
          refine (endOf_any _ d x false _ (HD.out _ (r4.mono (by omega)))).mono ?_; rintro e w4 ⟨rfl, hk4⟩
          have r5 : Rd codCr w4 w.heap.size A d.crs := r4.below (hk4.below.mono (by omega))
          obtain ⟨y0, y1, y2, y3⟩ := (hBw.kp hk4).two
          obtain ⟨l0, l1, l2, l3, l4⟩ := lts (hBw.kp hk4).lt
          have s4 := hk4.size
          have hat := Lib.hid fun w' (h : Rd codCr w' w'.heap.size A d.crs) => arcAt_any _ d (endOf d x false).1 (((endOf d x false).2 + 2) % 4) w' (HD.out _ h) e1 (by omega)
          rw [hnx'.out] at hat
          generalize endOf d (x : Int) false = p at *
          obtain ⟨p1, p2⟩ := p
          dsimp only [spotV] at *
          have hm : (((p2 : Int) + 2) % 4) = (((p2 + 2) % 4 : Nat) : Int) := by omega
          generalize (p2 + 2) % 4 = m at *
          go_wp2_with fail
          refine (hat.out _ ((r5.mono (by omega)).kp ((Kp.refl _).alloc _))).mono ?_; rintro e w5 ⟨rfl, hk5⟩
          go_wp2_with fail
          go_roundw
          case rel => exact ⟨nextN d x, seen.set x true, acc ++ [(x : Int)], hnx0, hnx1, rfl, hst.out.symm, by rw [List.length_set]; exact hsl, (q3.kp hk4).kp hk5.al, (ho3.kp hk4).kp hk5.al, by simp; omega, gr_trans hgr3 (gr_of_kp (hk4.trans hk5.al) _), .inr ⟨by simp, hcase'.out⟩⟩
          case measure =>
            obtain ⟨A5, c5, rfl, _⟩ := ho3.sl
            simp [lenV]; omega
        · rw [hgx] at cs
          have hst := Lib.hid (hring.out.symm.trans (ringF_stop (nx := nextN d) (acc := acc) hgx))
          have hor := ho.other hq hgr (by decide) (by decide)
          obtain ⟨vs, l1, hv, hrs⟩ := hor
          have hfn : free seen0 ≤ seen0.length := List.countP_le_length
          have hk1 : Kp w wr := hk.grown hgr (fun k e => by injection e with e; omega)
          by_cases hacc : 0 < acc.length
          · have hg0 : Go.Proofs.Ytlbpgnimpcflaaa.ga seen0 (n + 1) = false := by
              rcases hcase.out with ⟨rfl, _⟩ | h
              · simp at hacc
              · exact h.2
            have hR' : Hid (ringsF (nextN d) (2 * d.crs.length + 1) (n + 1) = (seen, (ringsF (nextN d) (2 * d.crs.length + 1) n).2 ++ [acc])) := by rw [Hid, hR.out, if_neg (by simp [hg0]), hst.out]
            clear hgx hring hcase hg0
            go_wp2_with (at_builtin; refine push_of (C := codV) (y := .slice A2 acc.length c2) slInts rfl _ _ rfl hv rfl rfl rfl rfl (by intro u hu; simp [codV] at hu; subst hu; rfl) (by show (vs.length + 1) * 24 ≤ _; omega) (by omega) ?_; intro v' w3 hv3 hg3 _)
            go_roundw
            case rel =>
              exact ⟨n + 1, by omega, by go_num, hk1.ow hv hg3 (by omega), hBr.gr hg3 (fun e => by have := (hv.lt w.heap.size e.symm).1; omega), by rw [hR'.out]; exact hq2.kept hg3 (hq2.ne_ hv (by decide)), by rw [hR'.out]; exact Or.push l1 hv hrs (hoi.base (by omega)) (by omega) hv3 hg3, by rw [hR'.out]; simp; omega⟩
            case measure => simp [intOf] <;> omega
          · have hce : acc = [] ∧ seen = seen0 ∧ x = n + 1 := by
              rcases hcase.out with h | h
              · exact h
              · exact absurd h.1 hacc
            obtain ⟨rfl, rfl, rfl⟩ := hce
            have hR' : Hid (ringsF (nextN d) (2 * d.crs.length + 1) (n + 1) = ringsF (nextN d) (2 * d.crs.length + 1) n) := by rw [Hid, hR.out, if_pos hgx]
            clear hgx hring hcase hacc hR
            go_wp2_with fail
            go_roundw
            case rel => exact ⟨n + 1, by omega, by go_num, hk1, hBr, by rw [hR'.out, hs0'.out]; exact hq2, by rw [hR'.out]; exact ⟨vs, l1, hv, hrs⟩, by rw [hR'.out]; omega⟩
            case measure => simp [intOf] <;> omega
    · obtain rfl : n = 2 * d.crs.length := by omega
      go_wp2_with fail
      go_ret
      exact ⟨_, rfl, ho.intsR (by omega), hk⟩
end Go.Proofs.Ytlbpgnimpcflaaa
