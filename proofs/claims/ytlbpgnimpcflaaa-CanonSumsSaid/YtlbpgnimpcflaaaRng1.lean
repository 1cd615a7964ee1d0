/- Strands: the walk of the program's. -/
import Derived.Test.YtlbpgnimpcflaaaRng0
namespace Go.Proofs.Ytlbpgnimpcflaaa
open Go.ChangeShapes Go.WideShapes Go.ChangeAt Go.RowKit

def codB : Cod Bool := ⟨fun b => [.bool b], 1, 1, fun _ => rfl⟩
def codV : Cod Value := ⟨fun v => [v], 1, 24, fun _ => rfl⟩
theorem slBool : SlT Try.prog 23 4 1 1 (.bool false) := ⟨Try.underlying23, by kernel_rfl, rfl, by omega, by omega⟩
theorem slInts : SlT Try.prog 37 44 1 24 (.slice none 0 0) := ⟨Try.underlying37, by kernel_rfl, rfl, by omega, by omega⟩

/-- v, below block B, reads as the lists xss. -/
def IntsR (w : World) (B : Nat) (v : Value) (xss : List (List Int)) : Prop :=
  ∃ vs : List Value, vs.length = xss.length ∧ Rv codV w B v vs ∧ ∀ i, i < xss.length → Ints w B (ga vs i) (ga xss i)
theorem IntsR.kp {w w' : World} {v : Value} {xss : List (List Int)} (h : IntsR w w.heap.size v xss) (k : Kp w w') : IntsR w' w'.heap.size v xss := by
  obtain ⟨vs, h1, h2, h3⟩ := h
  exact ⟨vs, h1, h2.kp k, fun i hi => ints_kp (h3 i hi) k⟩
/-- Lists of the call's own. -/
def Or (w : World) (base : Nat) (v : Value) (xss : List (List Int)) : Prop :=
  ∃ vs : List Value, vs.length = xss.length ∧ Ow codV 44 w base v vs ∧ ∀ i, i < xss.length → OwnI w base (ga vs i) (ga xss i) ∧ (ga xss i).length ≤ 100
section
variable {w w' : World} {base g : Nat} {v : Value} {xss : List (List Int)}
theorem Or.nil_ : Or w base (.slice none 0 0) [] := ⟨[], rfl, Ow.nil_, fun i hi => by simp at hi⟩
theorem Or.kp (h : Or w base v xss) (k : Kp w w') : Or w' base v xss := by
  obtain ⟨vs, h1, h2, h3⟩ := h
  exact ⟨vs, h1, h2.kp k, fun i hi => ⟨(h3 i hi).1.kp k, (h3 i hi).2⟩⟩
theorem Or.intsR (h : Or w base v xss) (hr : xss.length ≤ 100) : IntsR w w.heap.size v xss := by
  obtain ⟨vs, h1, h2, h3⟩ := h
  exact ⟨vs, h1, h2.rv (by show vs.length * 24 ≤ _; omega), fun i hi => (h3 i hi).1.ints (by have := (h3 i hi).2; omega)⟩
/-- Kept while a block of another type is written. -/
theorem Or.other {α : Type} {C : Cod α} {E : TypeId} {b : Nat} {u : Value} {xs : List α} (h : Or w base v xss) (ho : Ow C E w b u xs) (hg : Gr w w' u.ownBlock) (h1 : (44 : Nat) ≠ E) (h2 : (3 : Nat) ≠ E) : Or w' base v xss := by
  obtain ⟨vs, r1, r2, r3⟩ := h
  exact ⟨vs, r1, r2.kept hg (r2.ne_ ho h1), fun i hi => ⟨(r3 i hi).1.kept hg ((ownI_ow (r3 i hi).1).ne_ ho h2), (r3 i hi).2⟩⟩
theorem Or.push {v' : Value} {vs : List Value} {r : List Int} {y : Value} (h1 : vs.length = xss.length) (h2 : Ow codV 44 w base v vs) (h3 : ∀ i, i < xss.length → OwnI w base (ga vs i) (ga xss i) ∧ (ga xss i).length ≤ 100)
    (hy : OwnI w base y r) (hr : r.length ≤ 100) (hv : Ow codV 44 w' base v' (vs ++ [y])) (hg : Gr w w' v.ownBlock) : Or w' base v' (xss ++ [r]) := by
  refine ⟨vs ++ [y], by simp [h1], hv, fun i hi => ?_⟩
  rw [List.length_append, List.length_singleton] at hi
  by_cases hl : i < xss.length
  · rw [ga_append_left _ _ _ (by omega), ga_append_left _ _ _ hl]
    exact ⟨(h3 i hl).1.kept hg ((ownI_ow (h3 i hl).1).ne_ h2 (by decide)), (h3 i hl).2⟩
  · rw [ga_append_right _ _ _ (by omega), ga_append_right _ _ _ (by omega), show i - vs.length = 0 by omega, show i - xss.length = 0 by omega]
    exact ⟨hy.kept hg ((ownI_ow hy).ne_ h2 (by decide)), hr⟩
theorem IsSh.other {α : Type} {C : Cod α} {b b0 : Nat} {u p : Value} {xs : List α} {d : Dg} (h : IsSh w b0 p d) (ho : Ow C 4 w b u xs) (hg : Gr w w' u.ownBlock) : IsSh w' b0 p d := by
  obtain ⟨g, A, c, gi, go, r1, r2, r3, r4, r5, r6, r7⟩ := h
  exact ⟨g, A, c, gi, go, r1, r2, r3, r4.gr hg (blk_ne ho r4 (by decide)), r5.kept hg (r5.ne_ ho (by decide)), r6.kept hg (r6.ne_ ho (by decide)), r7.kept hg (r7.ne_ ho (by decide))⟩
end

theorem OwnI.base {w : World} {b b' : Nat} {v : Value} {xs : List Int} (h : OwnI w b v xs) (hb : b' ≤ b) : OwnI w b' v xs := OwnI.of_ow ((ownI_ow h).base hb)

def lenV : Value → Nat | .slice _ n _ => n | _ => 0
def IssOw (xss : List (List Int)) (w : World) (e : Ending) (w' : World) : Prop := ∃ v, e = .returned v ∧ Or w' w.heap.size v xss ∧ xss.length ≤ 100 ∧ Kp w w'
def IssPost (xss : List (List Int)) (w : World) (e : Ending) (w' : World) : Prop := ∃ v, e = .returned v ∧ IntsR w' w'.heap.size v xss ∧ Kp w w'

set_option maxRecDepth 100000 in
set_option maxHeartbeats 400000 in
theorem arcs_any (v : Value) (d : Dg) (w : World) (b0 : Nat) (hs : IsSh w b0 v d) (hn : d.crs.length ≤ 16) :
    Calls Try.prog 55 #[v] w fun e w' => e = .returned (.int .i64 (2 * (d.crs.length : Int))) ∧ w' = w := by
  obtain ⟨g, A, cp, gi, go, rfl, lg, lgi, lgo, s0, s1, s2, s3, hr, _, _⟩ := hs.look hn
  clear hr hs
  go_enter Try.func55, Try.ntmps55
  go_wp2_with fail
  go_ret
  exact ⟨rfl, rfl⟩

set_option maxRecDepth 100000 in
set_option maxHeartbeats 4000000 in
theorem rings_own (v : Value) (d : Dg) (w : World) (b0 : Nat) (hs : IsSh w b0 v d) (hn : d.crs.length ≤ 16) (ha : arcsB d = true) :
    Calls Try.prog 82 #[v, .func (.func 83) #[v] #[]] w (IssOw (strandsL d) w) := by
  obtain ⟨g, A, cp, gi, go, rfl, _, _, _, _⟩ := hs.look hn
  have hS := Lib.hid hs
  have hA := Lib.hid ha
  have hm2 := fun W => make_of slBool (2 * d.crs.length + 1) (2 * (d.crs.length : Int) + 1) (by omega) (by omega) W
  clear hs ha
  go_enter Try.func82, Try.ntmps82
  go_wp2_with fail
  refine (arcs_any _ d _ b0 hS.out hn).mono ?_; rintro e w1 ⟨rfl, rfl⟩
  go_wp2_with fail
  have q0 : Ow codB 4 (w1.alloc (.cells (madeCells #[Value.bool false] (2 * d.crs.length + 1)) 4)) w1.heap.size (.slice (some ⟨w1.heap.size, 0, none⟩) (2 * d.crs.length + 1) (2 * d.crs.length + 1)) (List.replicate (2 * d.crs.length + 1) false) := by
    refine Ow.made (C := codB) (z := .bool false) rfl ?_ (Nat.le_refl _) (by unfold maxLen; omega)
    have e : (2 * d.crs.length + 1) * codB.k = 2 * d.crs.length + 1 := Nat.mul_one _
    rw [e]
    exact Blk.new _ _ _
  go_loopw [6, 7] (fun o i wr => ∃ n : Nat, n ≤ 2 * d.crs.length ∧ i = .int .i64 ((n : Int) + 1) ∧ Kp w1 wr ∧ Ow codB 4 wr w1.heap.size (.slice (some ⟨w1.heap.size, 0, none⟩) (2 * d.crs.length + 1) (2 * d.crs.length + 1)) (ringsF (nextN d) (2 * d.crs.length + 1) n).1 ∧
    Or wr w1.heap.size o (ringsF (nextN d) (2 * d.crs.length + 1) n).2 ∧ (ringsF (nextN d) (2 * d.crs.length + 1) n).2.length ≤ n) (fun _ i _ => (2 * (d.crs.length : Int) + 1 - intOf i).toNat)
  case atStart => exact ⟨0, Nat.zero_le _, rfl, (Kp.refl _).alloc _, q0, Or.nil_, Nat.le_refl _⟩
  case round =>
    clear q0 hm2
    obtain ⟨n, hn2, rfl, hk, hq, ho, hol⟩ := hrel
    have hS' := hS.out.kp hk
    have hlen := ringsF_len (nextN d) (2 * d.crs.length + 1) n
    by_cases hlt : n < 2 * d.crs.length
    · have td : decide ((n : Int) + 1 ≤ 2 * (d.crs.length : Int)) = true := by simp; omega
      have cs := hq.cell (i := n + 1) (by rw [hlen]; omega) (j := 0) (by decide) rfl
      have cs : wr.cell? ⟨w1.heap.size, n + 1, none⟩ = some (.bool (Go.Proofs.Ytlbpgnimpcflaaa.ga (ringsF (nextN d) (2 * d.crs.length + 1) n).1 (n + 1))) := by simpa [codB] using cs
      cases hg : Go.Proofs.Ytlbpgnimpcflaaa.ga (ringsF (nextN d) (2 * d.crs.length + 1) n).1 (n + 1)
      · rw [hg] at cs
        have hR := Lib.hid (ringsF_ring hg)
        have hg' := Lib.hid hg
        clear hg
        generalize hs0 : (ringsF (nextN d) (2 * d.crs.length + 1) n).1 = seen0 at *
        generalize (ringsF (nextN d) (2 * d.crs.length + 1) n).2 = out0 at *
        have hs0' := Lib.hid hs0
        clear hs0
        obtain ⟨wo, rfl⟩ : ∃ wo : World, wo = wr := ⟨_, rfl⟩
        go_wp2_with fail
        refine (arcs_any _ d _ b0 hS' hn).mono ?_; rintro e w2 ⟨rfl, rfl⟩
        go_wp2_with fail
        go_loopw [8, 9] (fun r i wr => ∃ (x : Nat) (seen : List Bool) (acc : List Int), 1 ≤ x ∧ x ≤ 2 * d.crs.length ∧ i = .int .i64 x ∧ Hid (ringF (nextN d) seen x acc = ringF (nextN d) seen0 (n + 1) []) ∧ seen.length = 2 * d.crs.length + 1 ∧
          Ow codB 4 wr w1.heap.size (.slice (some ⟨w1.heap.size, 0, none⟩) (2 * d.crs.length + 1) (2 * d.crs.length + 1)) seen ∧ OwnI wr w2.heap.size r acc ∧ acc.length + free seen ≤ 2 * d.crs.length + 1 ∧ Gr w2 wr (some w1.heap.size)) (fun r _ _ => 2 * d.crs.length + 1 - lenV r)
        case atStart => exact ⟨n + 1, seen0, [], by omega, by omega, by go_num, rfl, hlen, hq, OwnI.nil_, by have : free seen0 ≤ seen0.length := List.countP_le_length; simp; omega, gr_refl _ _⟩
        case round =>
          clear cs
          obtain ⟨x, seen, acc, hx0, hx1, rfl, hring, hsl, hq2, hoi, hfr, hgr⟩ := hrel
          have cs := hq2.cell (i := x) (by rw [hsl]; omega) (j := 0) (by decide) rfl
          have cs : wr.cell? ⟨w1.heap.size, x, none⟩ = some (.bool (Go.Proofs.Ytlbpgnimpcflaaa.ga seen x)) := by simpa [codB] using cs
          have cf := hq2.free x
          obtain ⟨A2, c2, rfl, hc2⟩ := hoi.sl
          have hz := hgr.size
          have hz1 := hk.size
          cases hgx : Go.Proofs.Ytlbpgnimpcflaaa.ga seen x
          · rw [hgx] at cs
            have hfs := free_set (seen := seen) (x := x) (by rw [hsl]; omega) hgx
            have hst := Lib.hid (hring.out.symm.trans (ringF_go (nx := nextN d) (acc := acc) (by rw [hsl]; omega) hgx))
            clear hgx hring
            have q1 := hq2.set_ (i := x) (by rw [hsl]; omega) (j := 0) (by decide) (.bool true) true rfl
            have q1 : Ow codB 4 (wr.setCell ⟨w1.heap.size, x, none⟩ (.bool true)) w1.heap.size (.slice (some ⟨w1.heap.size, 0, none⟩) (2 * d.crs.length + 1) (2 * d.crs.length + 1)) (seen.set x true) := by simpa [codB] using q1
            obtain ⟨hnx, hnx0, hnx1⟩ := nextN_eq hA.out hx0 hx1
            have hoi' : OwnI (wr.setCell ⟨w1.heap.size, x, none⟩ (.bool true)) w2.heap.size (.slice A2 acc.length c2) acc := hoi.kept (gr_set1 _) ((ownI_ow hoi).ne_ hq2 (by decide))
            have hnx' := Lib.hid hnx
            clear hnx
            go_wp2_with (at_builtin; refine push_int rfl _ _ rfl hoi' rfl rfl (by simp) (by omega) (by simp; omega) ?_; intro v' w3 ho3 hg3 _)
            have hgr2 : Gr w2 (wr.setCell ⟨w1.heap.size, x, none⟩ (.bool true)) (some w1.heap.size) := gr_setCell hgr _ _
            have hgr3 : Gr w2 w3 (some w1.heap.size) := ⟨hg3.os.trans hgr2.os, hg3.tape.trans hgr2.tape, hg3.output.trans hgr2.output, Nat.le_trans hgr2.size hg3.size, fun k hk hne => (hg3.block k (Nat.lt_of_lt_of_le hk hgr2.size) (fun e => by have := (hoi'.lt k e.symm).1; omega)).trans (hgr2.block k hk hne)⟩
            have q3 : Ow codB 4 w3 w1.heap.size (.slice (some ⟨w1.heap.size, 0, none⟩) (2 * d.crs.length + 1) (2 * d.crs.length + 1)) (seen.set x true) := q1.kept hg3 (q1.ne_ (ownI_ow hoi') (by decide))
            have hS3 : IsSh w3 b0 (.pointer (some ⟨g, 0, none⟩)) d := hS'.other hq hgr3
            go_wp2_with fail
            refine (next_any _ d x _ b0 hS3 hn hA.out hx0 hx1).mono ?_; rintro e w4 ⟨rfl, hk4⟩
            rw [hnx'.out]
            go_wp2_with fail
            go_roundw
            case rel => exact ⟨nextN d x, seen.set x true, acc ++ [(x : Int)], hnx0, hnx1, rfl, hst.out.symm, by rw [List.length_set]; exact hsl, q3.kp hk4, ho3.kp hk4, by simp; omega, gr_trans hgr3 (gr_of_kp hk4 _)⟩
            case measure =>
              obtain ⟨A5, c5, rfl, _⟩ := ho3.sl
              simp [lenV]; omega
          · rw [hgx] at cs
            have hst := Lib.hid (hring.out.symm.trans (ringF_stop (nx := nextN d) (acc := acc) hgx))
            clear hgx hring
            have hor := ho.other hq hgr (by decide) (by decide)
            obtain ⟨vs, l1, hv, hrs⟩ := hor
            have hfn : free seen0 ≤ seen0.length := List.countP_le_length
            go_wp2_with (at_builtin; refine push_of (C := codV) (y := .slice A2 acc.length c2) slInts rfl _ _ rfl hv rfl rfl rfl rfl (by intro u hu; simp [codV] at hu; subst hu; rfl) (by show (vs.length + 1) * 24 ≤ _; omega) (by omega) ?_; intro v' w3 hv3 hg3 _)
            go_roundw
            case rel =>
              have hk1 : Kp w1 wr := hk.grown hgr (fun k e => by injection e with e; omega)
              have hR' : ringsF (nextN d) (2 * d.crs.length + 1) (n + 1) = (seen, out0 ++ [acc]) := by rw [hR.out, hst.out]
              exact ⟨n + 1, by omega, by go_num, hk1.ow hv hg3 (Nat.le_refl _), by rw [hR']; exact hq2.kept hg3 (hq2.ne_ hv (by decide)), by rw [hR']; exact Or.push l1 hv hrs (hoi.base hz1) (by omega) hv3 hg3, by rw [hR']; simp; omega⟩
            case measure => simp [intOf] <;> omega
      · rw [hg] at cs
        have hR := Lib.hid (ringsF_skip hg)
        clear hg
        go_wp2_with fail
        refine (arcs_any _ d _ b0 hS' hn).mono ?_; rintro e w2 ⟨rfl, rfl⟩
        go_wp2_with fail
        go_roundw
        case rel => exact ⟨n + 1, by omega, by go_num, hk, by rw [hR.out]; exact hq, by rw [hR.out]; exact ho, by rw [hR.out]; omega⟩
        case measure => simp [intOf] <;> omega
    · obtain rfl : n = 2 * d.crs.length := by omega
      go_wp2_with fail
      refine (arcs_any _ d _ b0 hS' hn).mono ?_; rintro e w2 ⟨rfl, rfl⟩
      go_wp2_with fail
      go_ret
      exact ⟨_, rfl, ho, by unfold strandsL; omega, hk⟩
theorem IssOw.post {xss : List (List Int)} {w w' : World} {e : Ending} (h : IssOw xss w e w') : IssPost xss w e w' := by
  obtain ⟨v, h1, h2, h3, h4⟩ := h
  exact ⟨v, h1, h2.intsR h3, h4⟩
theorem Or.gr {w w' : World} {base g : Nat} {v : Value} {xss : List (List Int)} (h : Or w base v xss) (hg : Gr w w' (some g)) (hb : g < base) : Or w' base v xss := by
  obtain ⟨vs, h1, h2, h3⟩ := h
  have key : ∀ u : Value, (∀ k, u.ownBlock = some k → base ≤ k ∧ k < w.heap.size) → u.ownBlock = none ∨ u.ownBlock ≠ some g := by
    intro u hu
    cases hq : u.ownBlock with
    | none => exact .inl rfl
    | some k => exact .inr fun e => by injection e with e; have := (hu k hq).1; omega
  exact ⟨vs, h1, h2.kept hg (key _ h2.lt), fun i hi => ⟨(h3 i hi).1.kept hg (key _ (h3 i hi).1.lt), (h3 i hi).2⟩⟩
/-- The i-th list of lists of the call's own. -/
theorem Or.at_ {w : World} {base n c : Nat} {A : Option Addr} {xss : List (List Int)} (h : Or w base (.slice A n c) xss) {i : Nat} (hi : i < xss.length) : n = xss.length ∧ ∃ g A' c', A = some ⟨g, 0, none⟩ ∧ g < w.heap.size ∧ w.cell? ⟨g, i, none⟩ = some (.slice A' (ga xss i).length c') ∧ OwnI w base (.slice A' (ga xss i).length c') (ga xss i) := by
  obtain ⟨vs, h1, h2, h3⟩ := h
  obtain rfl := h2.n_eq
  obtain ⟨g, cap, e, _, hlt, _⟩ := h2.form (by omega)
  injection e with e
  subst e
  obtain ⟨A', c', e', _⟩ := (h3 i hi).1.sl
  have hc := h2.cell (i := i) (by omega) (j := 0) (by decide) rfl
  refine ⟨h1, g, A', c', rfl, hlt, ?_, by rw [← e']; exact (h3 i hi).1⟩
  rw [← e']
  simpa [codV] using hc
theorem OwnI.cellA {w : World} {base n c : Nat} {A : Option Addr} {xs : List Int} (h : OwnI w base (.slice A n c) xs) {i : Nat} (hi : i < xs.length) : ∃ g, A = some ⟨g, 0, none⟩ ∧ base ≤ g ∧ g < w.heap.size ∧ w.cell? ⟨g, i, none⟩ = some (.int .i64 (gi xs i)) := by
  obtain ⟨g, cap, e, h1, h2, _⟩ := h.form (by omega)
  injection e with e1 e2
  subst e1
  exact ⟨g, rfl, h1, h2, h.cell hi⟩
theorem rings_next (v : Value) (d : Dg) (w : World) (b0 : Nat) (hs : IsSh w b0 v d) (hn : d.crs.length ≤ 16) (ha : arcsB d = true) :
    Calls Try.prog 82 #[v, .func (.func 83) #[v] #[]] w (IssPost (strandsL d) w) := (rings_own v d w b0 hs hn ha).mono fun _ _ => IssOw.post
end Go.Proofs.Ytlbpgnimpcflaaa
