/- Walks printed by eng.py. -/
import Derived.Test.YthfiblbkkjcliaaB4
set_option linter.unusedSimpArgs false
set_option linter.unusedVariables false
namespace Go.Proofs.Ythfiblbkkjcliaa
open Go.ChangeShapes Go.WideShapes Go.ChangeAt Go.RowKit
/-- No two neighbours cancel. -/
def redW (xs : List Int) : Prop := ∀ i, i + 1 < xs.length → ga xs (i + 1) ≠ - ga xs i
theorem redW.push_ {xs : List Int} (h : redW xs) (a : Int) : redW (pushW xs a) := by
  unfold pushW
  split
  · intro i hi
    rw [List.length_take] at hi
    rw [ga_take _ _ _ (by omega), ga_take _ _ _ (by omega)]; exact h i (by omega)
  · rename_i hc
    intro i hi
    rw [List.length_append, List.length_singleton] at hi
    by_cases h1 : i + 1 < xs.length
    · rw [ga_append_left _ _ _ h1, ga_append_left _ _ _ (by omega)]; exact h i h1
    · rw [ga_append_right _ _ _ (by omega), ga_append_left _ _ _ (by omega), show i + 1 - xs.length = 0 by omega]
      intro e
      have e2 : a = - ga xs i := e
      exact hc ⟨by omega, by rw [show xs.length - 1 = i by omega]; omega⟩
theorem redW.glu_ {xs : List Int} (h : redW xs) (ys : List Int) : redW (gluW xs ys) := by
  unfold gluW
  induction ys generalizing xs with
  | nil => exact h
  | cons y ys ih => exact ih (h.push_ y)
theorem redW.nil_ : redW [] := fun i hi => by simp at hi
theorem redW.inv_ {xs : List Int} (h : redW xs) : redW (invW xs) := fun i hi => by
  rw [invW_len] at hi
  rw [invW_ga _ _ hi, invW_ga _ _ (by omega)]
  have := h (xs.length - 1 - (i + 1)) (by omega)
  rw [show xs.length - 1 - (i + 1) + 1 = xs.length - 1 - i by omega] at this
  omega
theorem redW.self {xs : List Int} (h : redW xs) : gluW [] xs = xs := by
  have key : ∀ k, k ≤ xs.length → gluW [] (xs.take k) = xs.take k := by
    intro k
    induction k with
    | zero => intro _; rfl
    | succ k ih =>
      intro hk
      rw [gluW_take _ _ _ (by omega), ih (by omega), take_ga _ _ (by omega)]
      unfold pushW
      rw [if_neg]
      rintro ⟨h1, h2⟩
      rw [List.length_take] at h1 h2
      rw [ga_take _ _ _ (by omega), show min k xs.length - 1 = k - 1 by omega] at h2
      have := h (k - 1) (by omega)
      rw [show k - 1 + 1 = k by omega] at this
      omega
  have := key xs.length (Nat.le_refl _)
  rwa [List.take_length] at this
theorem prod3_red {a b c : List Int} (h : redW a) : prodW [a, b, c] = gluW (gluW a b) c := by
  show gluW (gluW (gluW [] a) b) c = _
  rw [h.self]
/-- A table of words without neighbours that cancel. -/
def redA (n : Nat) (t : List (List Int)) : Prop := ∀ i, i < n → redW (ga t i)
theorem redA.unit (n : Nat) : redA n (unitA n) := fun i hi => by
  have e : ga (unitA n) i = [(i : Int) + 1] := by rw [ga_eq (by simpa [unitA] using hi)]; simp [unitA]
  rw [e]
  intro j hj; simp at hj
theorem redA.step {n : Nat} {t : List (List Int)} (hl : t.length = n) (h : redA n t) {x : Int} (hx : 1 ≤ max x (-x) ∧ max x (-x) < n) : redA n (stepA t x) := by
  have hi : (max x (-x) - 1).toNat + 1 < n := by omega
  have t1 := h _ (show (max x (-x) - 1).toNat < n by omega)
  have t2 := h _ hi
  intro j hj
  have tj := h j hj
  unfold stepA
  dsimp only
  split
  · rw [ga_set _ _ _ _ (by simp; omega)]
    split
    · exact t1
    · rw [ga_set _ _ _ _ (by omega)]
      split
      · exact redW.glu_ (redW.glu_ (redW.nil_.glu_ _) _) _
      · exact tj
  · rw [ga_set _ _ _ _ (by simp; omega)]
    split
    · exact redW.glu_ (redW.glu_ (redW.nil_.glu_ _) _) _
    · rw [ga_set _ _ _ _ (by omega)]
      split
      · exact t2
      · exact tj
theorem unitA_take (n : Nat) (k : Nat) (h : k < n) : (unitA n).take k ++ [[(k : Int) + 1]] = (unitA n).take (k + 1) := by
  rw [take_ga _ _ (by simpa [unitA] using h)]
  congr 2
  rw [ga_eq (by simpa [unitA] using h)]; simp [unitA]
theorem stepA_p {t : List (List Int)} {x : Int} (h : redW (ga t (max x (-x) - 1).toNat)) (hx : 0 < x) : (t.set (max x (-x) - 1).toNat (gluW (gluW (ga t (max x (-x) - 1).toNat) (ga t ((max x (-x) - 1).toNat + 1))) (invW (ga t (max x (-x) - 1).toNat)))).set ((max x (-x) - 1).toNat + 1) (ga t (max x (-x) - 1).toNat) = stepA t x := by
  unfold stepA; dsimp only; rw [if_pos hx, prod3_red h]
theorem stepA_n {t : List (List Int)} {x : Int} (h : redW (invW (ga t ((max x (-x) - 1).toNat + 1)))) (hx : ¬ 0 < x) : (t.set (max x (-x) - 1).toNat (ga t ((max x (-x) - 1).toNat + 1))).set ((max x (-x) - 1).toNat + 1) (gluW (gluW (invW (ga t ((max x (-x) - 1).toNat + 1))) (ga t (max x (-x) - 1).toNat)) (ga t ((max x (-x) - 1).toNat + 1))) = stepA t x := by
  unfold stepA; dsimp only; rw [if_neg hx, prod3_red h]
def TabA (xss : List (List Int)) (u : Value) (M : Hp) : Prop := ∃ A c vs, u = .slice A vs.length c ∧ RdA (cdV 22) M A c vs ∧ Rd2 cdInt M vs xss

noncomputable def ActOf_n0 : Code := Try.f14.body.getD .skip
noncomputable def ActOf_n1 : Code := cL ActOf_n0
noncomputable def ActOf_n2 : Code := cR ActOf_n0
noncomputable def ActOf_n3 : Code := cL ActOf_n2
noncomputable def ActOf_n4 : Code := cR ActOf_n2
noncomputable def ActOf_n5 : Code := cL ActOf_n4
noncomputable def ActOf_n6 : Code := cR ActOf_n4
noncomputable def ActOf_n7 : Code := cL ActOf_n5
noncomputable def ActOf_n8 : Code := cR ActOf_n5
noncomputable def ActOf_n9 : Code := cL ActOf_n8
noncomputable def ActOf_n10 : Code := cL ActOf_n9
noncomputable def ActOf_n11 : Code := cL ActOf_n10
noncomputable def ActOf_n12 : Code := cR ActOf_n10
noncomputable def ActOf_n13 : Code := cL ActOf_n11
noncomputable def ActOf_n14 : Code := cR ActOf_n11
noncomputable def ActOf_n15 : Code := cL ActOf_n14
noncomputable def ActOf_n16 : Code := cR ActOf_n14
noncomputable def ActOf_n17 : Code := cL ActOf_n12
noncomputable def ActOf_n18 : Code := cR ActOf_n12
noncomputable def ActOf_n19 : Code := cL ActOf_n17
noncomputable def ActOf_n20 : Code := cL ActOf_n6
noncomputable def ActOf_n21 : Code := cR ActOf_n6
noncomputable def ActOf_n22 : Code := cL ActOf_n20
noncomputable def ActOf_n23 : Code := cR ActOf_n20
noncomputable def ActOf_n24 : Code := cL ActOf_n23
noncomputable def ActOf_n25 : Code := cL ActOf_n24
noncomputable def ActOf_n26 : Code := cL ActOf_n25
noncomputable def ActOf_n27 : Code := cR ActOf_n25
noncomputable def ActOf_n28 : Code := cL ActOf_n26
noncomputable def ActOf_n29 : Code := cR ActOf_n26
noncomputable def ActOf_n30 : Code := cL ActOf_n29
noncomputable def ActOf_n31 : Code := cR ActOf_n29
noncomputable def ActOf_n32 : Code := cL ActOf_n27
noncomputable def ActOf_n33 : Code := cR ActOf_n27
noncomputable def ActOf_n34 : Code := cL ActOf_n32
noncomputable def ActOf_n35 : Code := cL ActOf_n34
noncomputable def ActOf_n36 : Code := cR ActOf_n34
noncomputable def ActOf_n37 : Code := cL ActOf_n36
noncomputable def ActOf_n38 : Code := cR ActOf_n36
noncomputable def ActOf_n39 : Code := cL ActOf_n38
noncomputable def ActOf_n40 : Code := cR ActOf_n38
noncomputable def ActOf_n41 : Code := cL ActOf_n40
noncomputable def ActOf_n42 : Code := cR ActOf_n40
noncomputable def ActOf_n43 : Code := cL ActOf_n41
noncomputable def ActOf_n44 : Code := cR ActOf_n41
noncomputable def ActOf_n45 : Code := cL ActOf_n42
noncomputable def ActOf_n46 : Code := cR ActOf_n42
noncomputable def ActOf_n47 : Code := cL ActOf_n21
noncomputable def ActOf_n48 : Code := cR ActOf_n21
set_option maxRecDepth 10000 in
theorem ActOf_t {w : World} {M : Hp} {X : Fr} (m : Nat) (l : List Int) {lA : Option Addr} {lc : Nat} (hl : RdA cdInt (M.un X.h) lA lc l) (hm : m ≤ 6) (hwl : l.length ≤ 20) (hwb : ∀ i, i < l.length → 1 ≤ max (ga l i) (-(ga l i)) ∧ max (ga l i) (-(ga l i)) < m) (S : SH w M X []) : Ct Try.prog 14 [.int .i64 (m : Int), .slice lA l.length lc] w M X (TabA (actP m l)) := by
  unfold Ct
  have rmhl : l.length * 8 ≤ 140737488355328 := hl.room
  refine calls_in (b := ActOf_n0) Try.func14 rfl Try.ntmps14 rfl (fun C hC => ?_)
  refine ws_sub [(0, _), (1, _)] ⟨rfl, rfl, trivial⟩ ?_
  refine ws_seqN ActOf_n1 ActOf_n2 rfl rfl rfl ?_
  refine ws_region rfl ?_
  refine wl_op (k := 0) (k' := 1) rfl rfl rfl (wo_run rfl rfl (run_assign rfl rfl) ?_)
  refine wl_end rfl ?_
  refine nm_sub [(0, _), (1, _)] ⟨rfl, rfl, trivial⟩ ?_
  refine nm_thn ?_
  refine ws_seqN ActOf_n3 ActOf_n4 rfl rfl rfl ?_
  refine ws_region rfl ?_
  refine wl_op (k := 0) (k' := 1) rfl rfl rfl (wo_run rfl rfl (run_assign rfl rfl) ?_)
  refine wl_end rfl ?_
  refine nm_thn ?_
  refine ws_seqN ActOf_n5 ActOf_n6 rfl rfl rfl ?_
  refine ws_seqN ActOf_n7 ActOf_n8 rfl rfl rfl ?_
  refine ws_region rfl ?_
  refine wl_op (k := 0) (k' := 1) rfl rfl rfl (wo_run rfl rfl (run_assign rfl rfl) ?_)
  refine wl_end rfl ?_
  refine nm_thn ?_
  refine ws_blockN ActOf_n9 0 rfl rfl rfl ?_
  have S1 := S.nilrow (cdV 22); clear S
  refine ws_loopE (fun mx_ ax_ wx_ => ∃ (k : Nat) (tv : List SlV) (tb : List (List Int)) (vro : Value) (M1 : Hp), M.le M1 ∧ mx_ = m - k ∧ Env 75 [(0, .int .i64 (m : Int)), (1, .slice lA l.length lc), (5, vro), (6, .int .i64 ((k : Int) + 1))] ax_ ∧ SH wx_ M1 X [Rs.row (cdV 22) vro tv] ∧ k ≤ m ∧ tb = (unitA m).take k ∧ Rd2 cdInt M1 tv tb) rfl ?_ ?_
  · intro ax_ hax_
    refine ⟨_, ⟨0, _, [], _, _, Hp.le_refl _, rfl, hax_.sub ⟨rfl, rfl, rfl, rfl, trivial⟩, S1.pick [0] [_] (by decide) ⟨rfl, trivial⟩, ?hq1f0, ?hq1f1, ?hq1f2⟩⟩
    case hq1f0 => omega
    case hq1f1 => rfl
    case hq1f2 => exact Rd2.nil_
  · rintro m1 a1 w1 ⟨k, tv, tb, vro, M1, hle1, rfl, he1, S2, hk, htb, hdt⟩
    clear S1
    refine ws_in he1 (c := ActOf_n10) rfl ?_
    clear he1 a1
    replace hl := hl.mono (Hp.un_mono hle1 S2.mx)
    have htl := hdt.1
    have htk : tb.length = k := by rw [htb]; simp [unitA]; omega
    refine ws_seqN ActOf_n11 ActOf_n12 rfl rfl rfl ?_
    refine ws_seqN ActOf_n13 ActOf_n14 rfl rfl rfl ?_
    refine ws_region rfl ?_
    refine wl_op (k := 0) (k' := 1) rfl rfl rfl (wo_run rfl rfl (run_move rfl rfl) ?_)
    refine wl_op (k := 1) (k' := 2) rfl rfl rfl (wo_run rfl rfl (run_move rfl rfl) ?_)
    refine wl_op (k := 2) (k' := 3) rfl rfl rfl (wo_run rfl rfl (run_leq rfl rfl rfl) ?_)
    refine wl_end rfl ?_
    refine nm_sub [(0, _), (1, _), (5, _), (6, _), (13, _)] ⟨rfl, rfl, rfl, rfl, rfl, trivial⟩ ?_
    refine nm_thn ?_
    refine ws_condN ActOf_n15 ActOf_n16 rfl rfl rfl rfl (fun hb13 => ?_) (fun hb13 => ?_)
    · have hb13 := of_decide_eq_true hb13
      refine ws_skip rfl ?_
      refine nm_sub [(0, _), (1, _), (5, _), (6, _)] ⟨rfl, rfl, rfl, rfl, trivial⟩ ?_
      refine nm_thn ?_
      refine ws_seqN ActOf_n17 ActOf_n18 rfl rfl rfl ?_
      refine ws_blockN ActOf_n19 1 rfl rfl rfl ?_
      refine ws_region rfl ?_
      refine wl_op (k := 0) (k' := 1) rfl rfl rfl (wo_run rfl rfl (run_move rfl rfl) ?_)
      refine wl_op (k := 1) (k' := 2) rfl rfl rfl (wo_run rfl rfl (run_move rfl rfl) ?_)
      refine wl_op (k := 2) (k' := 3) rfl rfl rfl (wo_buildSlice1 (C := cdInt) (l := [_]) rfl rfl rfl rfl sl22 rfl rfl rfl rfl S2 ?_)
      intro gb1 w2 S3; clear S2
      obtain ⟨M2, hle2, S4, hr1⟩ := S3.pubbox (C := cdInt) (z := ((k : Int) + 1)) (i := 0) (H' := [_, _]) rfl rfl rfl (by decide)
      clear S3
      replace hl := hl.mono (Hp.un_mono hle2 S4.mx)
      replace hdt := hdt.mono hle2
      refine wl_op (k := 3) (k' := 4) rfl rfl rfl (wo_buildSlice1 (C := (cdV 22)) (l := [_]) rfl rfl rfl rfl sl27 rfl rfl rfl rfl S4 ?_)
      intro gb2 w3 S5; clear S4
      refine wl_op (k := 4) (k' := 5) rfl rfl rfl (wo_append1 (C := (cdV 22)) (i := 2) (q := 0) (⟨(some ⟨gb1, 0, none⟩), ([((k : Int) + 1)]).length, 1⟩ : SlV) rfl rfl rfl rfl rfl rfl rfl rfl sl27 S5 rfl rfl rfl (by show (_ + 1) * 24 ≤ _; first | omega | (simp only [List.length_set, List.length_append, List.length_replicate, List.length_singleton, List.length_cons, List.length_nil]; omega)) ?_)
      intro vro1 w4 S6; clear S5
      have S7 := S6.pick [1, 2] [_, _] (by decide) ⟨rfl, rfl, trivial⟩; clear S6
      have hd1 := hdt.snoc (c := 1) hr1
      refine wl_op (k := 5) (k' := 6) rfl rfl rfl (wo_run rfl rfl (run_assign rfl rfl) ?_)
      refine wl_end rfl ?_
      refine nm_blk ?_
      refine nm_sub [(0, _), (1, _), (5, _), (6, _)] ⟨rfl, rfl, rfl, rfl, trivial⟩ ?_
      refine nm_thn ?_
      refine ws_region rfl ?_
      refine wl_op (k := 0) (k' := 1) rfl rfl rfl (wo_run rfl rfl (run_move rfl rfl) ?_)
      refine wl_op (k := 1) (k' := 2) rfl rfl rfl (wo_run rfl rfl (run_add rfl rfl rfl (by first | omega | (simp only [List.length_set, List.length_append, List.length_replicate, List.length_singleton, List.length_cons, List.length_nil]; omega))) ?_)
      refine wl_op (k := 2) (k' := 3) rfl rfl rfl (wo_run rfl rfl (run_assign rfl rfl) ?_)
      refine wl_end rfl ?_
      refine nm_lp ?_
      intro ax_ hax_
      refine ⟨_, ?hq2m, ⟨k + 1, _, (tb ++ [[((k : Int) + 1)]]), _, _, (hle1.trans hle2), rfl, hax_.sub ⟨rfl, rfl, rfl, rfl, trivial⟩, S7.pick [1] [_] (by decide) ⟨rfl, trivial⟩, ?hq2f0, ?hq2f1, ?hq2f2⟩⟩
      case hq2f0 => omega
      case hq2f1 => (rw [htb]; exact unitA_take _ _ (by omega))
      case hq2f2 => exact hd1
      case hq2m => omega
    · have hb13 := of_decide_eq_false hb13
      refine ws_exit rfl rfl ?_
      refine nm_sub [(1, _), (5, _)] ⟨rfl, rfl, trivial⟩ ?_
      refine nm_thn ?_
      refine ws_seqN ActOf_n20 ActOf_n21 rfl rfl rfl ?_
      refine ws_seqN ActOf_n22 ActOf_n23 rfl rfl rfl ?_
      refine ws_region rfl ?_
      refine wl_op (k := 0) (k' := 1) rfl rfl rfl (wo_run rfl rfl (run_assign rfl rfl) ?_)
      refine wl_end rfl ?_
      refine nm_thn ?_
      refine ws_blockN ActOf_n24 2 rfl rfl rfl ?_
      refine ws_loopE (fun mx_ ax_ wx_ => ∃ (k2 : Nat) (b2 : Nat) (tv2 : List SlV) (tb2 : List (List Int)) (vrp : Value) (M3 : Hp), M1.le M3 ∧ mx_ = l.length - k2 ∧ Env 75 [(1, .slice lA l.length lc), (5, vrp), (7, .int .i64 (k2 : Int))] ax_ ∧ SH wx_ M3 X [Rs.row (cdV 22) vrp tv2] ∧ k2 ≤ l.length ∧ tb2 = actP m (l.take k2) ∧ okA m b2 tb2 ∧ b2 = 3 ^ k2 ∧ redA m tb2 ∧ Rd2 cdInt M3 tv2 tb2) rfl ?_ ?_
      · intro ax_ hax_
        refine ⟨_, ⟨0, 1, _, tb, _, _, Hp.le_refl _, rfl, hax_.sub ⟨rfl, rfl, rfl, trivial⟩, S2.pick [0] [_] (by decide) ⟨rfl, trivial⟩, ?hq3f0, ?hq3f1, ?hq3f2, ?hq3f3, ?hq3f4, ?hq3f5⟩⟩
        case hq3f0 => omega
        case hq3f1 => (rw [htb, show k = m by omega]; show _ = unitA m; exact List.take_of_length_le (by simp [unitA]))
        case hq3f2 => (rw [htb, show k = m by omega, List.take_of_length_le (by simp [unitA])]; exact okA.unit m (by omega))
        case hq3f3 => rfl
        case hq3f4 => (rw [htb, show k = m by omega, List.take_of_length_le (by simp [unitA])]; exact redA.unit m)
        case hq3f5 => exact hdt
      · rintro m2 a2 w5 ⟨k2, b2, tv2, tb2, vrp, M3, hle3, rfl, he2, S8, hk2, hact, hok, hb2, hred, hdt2⟩
        clear S2
        refine ws_in he2 (c := ActOf_n25) rfl ?_
        clear he2 a2
        replace hl := hl.mono (Hp.un_mono hle3 S8.mx)
        replace hdt := hdt.mono hle3
        have htl2 := hdt2.1
        have hl2 := hok.1
        have hwk := fun h => hwb k2 h
        have hp3 : b2 ≤ 3486784401 := by rw [hb2]; exact Nat.le_trans (Nat.pow_le_pow_right (by omega) (show k2 ≤ 20 by omega)) (by decide)
        refine ws_seqN ActOf_n26 ActOf_n27 rfl rfl rfl ?_
        refine ws_seqN ActOf_n28 ActOf_n29 rfl rfl rfl ?_
        refine ws_region rfl ?_
        refine wl_op (k := 0) (k' := 1) rfl rfl rfl (wo_run rfl rfl (run_move rfl rfl) ?_)
        refine wl_op (k := 1) (k' := 2) rfl rfl rfl (wo_run rfl rfl (run_move rfl rfl) ?_)
        refine wl_op (k := 2) (k' := 3) rfl rfl rfl (wo_run rfl rfl (run_len rfl rfl rfl rfl rfl rfl Try.underlying22) ?_)
        refine wl_op (k := 3) (k' := 4) rfl rfl rfl (wo_run rfl rfl (run_lss rfl rfl rfl) ?_)
        refine wl_end rfl ?_
        refine nm_sub [(1, _), (5, _), (7, _), (24, _)] ⟨rfl, rfl, rfl, rfl, trivial⟩ ?_
        refine nm_thn ?_
        refine ws_condN ActOf_n30 ActOf_n31 rfl rfl rfl rfl (fun hb24 => ?_) (fun hb24 => ?_)
        · have hb24 := of_decide_eq_true hb24
          refine ws_skip rfl ?_
          refine nm_sub [(1, _), (5, _), (7, _)] ⟨rfl, rfl, rfl, trivial⟩ ?_
          refine nm_thn ?_
          refine ws_seqN ActOf_n32 ActOf_n33 rfl rfl rfl ?_
          refine ws_blockN ActOf_n34 3 rfl rfl rfl ?_
          refine ws_seqN ActOf_n35 ActOf_n36 rfl rfl rfl ?_
          refine ws_region rfl ?_
          refine wl_op (k := 0) (k' := 1) rfl rfl rfl (wo_run rfl rfl (run_move rfl rfl) ?_)
          refine wl_op (k := 1) (k' := 2) rfl rfl rfl (wo_run rfl rfl (run_move rfl rfl) ?_)
          refine wl_op (k := 2) (k' := 3) rfl rfl rfl (wo_run rfl rfl (run_indexM (C := cdInt) k2 rfl rfl rfl sl22 (by first | rfl | omega) hl (by first | omega | (simp only [List.length_set, List.length_append, List.length_replicate, List.length_singleton, List.length_cons, List.length_nil]; omega))) ?_)
          refine wl_op (k := 3) (k' := 4) rfl rfl rfl (wo_run rfl rfl (run_load1 rfl rfl Try.underlying3 rfl (hl.cell S8.um (i := k2) (by first | omega | (simp only [List.length_set, List.length_append, List.length_replicate, List.length_singleton, List.length_cons, List.length_nil]; omega)) 0 rfl rfl)) ?_)
          refine wl_op (k := 4) (k' := 5) rfl rfl rfl (wo_cq rfl rfl rfl rfl rfl rfl rfl cf29 S8 (abs_q (ga l k2) (by omega) S8.lend) ?_)
          rintro _ w6 S9 rfl; clear S8
          refine wl_op (k := 5) (k' := 6) rfl rfl rfl (wo_run rfl rfl (run_assign rfl rfl) ?_)
          refine wl_end rfl ?_
          refine nm_sub [(1, _), (5, _), (7, _), (8, _)] ⟨rfl, rfl, rfl, rfl, trivial⟩ ?_
          refine nm_thn ?_
          refine ws_seqN ActOf_n37 ActOf_n38 rfl rfl rfl ?_
          refine ws_eq 8 (.int .i64 (((max (ga l k2) (-(ga l k2)) - 1).toNat + 1 : Nat) : Int)) rfl (int_eq (by omega)) ?_
          have hia := hok.2 (max (ga l k2) (-(ga l k2)) - 1).toNat (by omega)
          have hib := hok.2 ((max (ga l k2) (-(ga l k2)) - 1).toNat + 1) (by omega)
          have hia9 := hred (max (ga l k2) (-(ga l k2)) - 1).toNat (by omega)
          have hib9 := (hred ((max (ga l k2) (-(ga l k2)) - 1).toNat + 1) (by omega)).inv_
          refine ws_draw rfl (by kernel_rfl) S9 11 rfl ?_
          clear S9
          refine wa_takeP (i := 0) (d := 32) 10 rfl (by kernel_rfl) (by kernel_rfl) (by kernel_rfl) rfl rfl rfl (fun w7 => run_move rfl rfl) ?_
          refine wa_takeP (i := 1) (d := 33) 9 rfl (by kernel_rfl) (by kernel_rfl) (by kernel_rfl) rfl rfl rfl (fun w8 => run_move rfl rfl) ?_
          refine wa_takeP (i := 2) (d := 34) 8 rfl (by kernel_rfl) (by kernel_rfl) (by kernel_rfl) rfl rfl rfl (fun w9 => run_sub rfl rfl rfl (by first | omega | (simp only [List.length_set, List.length_append, List.length_replicate, List.length_singleton, List.length_cons, List.length_nil]; omega))) ?_
          refine wa_take (i := 3) (d := 35) 7 rfl (by kernel_rfl) (by kernel_rfl) (by kernel_rfl) rfl rfl rfl (fun M7 N4 w10 hle7 S13 => .inl (run_indexR (C := (cdV 22)) (i := 0) ((max (ga l k2) (-(ga l k2)) - 1).toNat) rfl rfl rfl sl27 S13.suf rfl (by first | rfl | omega) (by first | omega | (simp only [List.length_set, List.length_append, List.length_replicate, List.length_singleton, List.length_cons, List.length_nil]; omega)))) ?_
          obtain ⟨hn1, hr2⟩ := hdt2.2 ((max (ga l k2) (-(ga l k2)) - 1).toNat) (by first | omega | (simp only [List.length_set, List.length_append, List.length_replicate, List.length_singleton, List.length_cons, List.length_nil]; omega))
          refine wa_take (i := 4) (d := 36) 6 rfl (by kernel_rfl) (by kernel_rfl) (by kernel_rfl) rfl rfl rfl (fun M8 N5 w11 hle8 S14 => .inl (run_load1 rfl rfl Try.underlying22 rfl (S14.suf.rowc (i := 0) (e := (max (ga l k2) (-(ga l k2)) - 1).toNat) (j := 0) rfl (by first | omega | (simp only [List.length_set, List.length_append, List.length_replicate, List.length_singleton, List.length_cons, List.length_nil]; omega)) rfl (congrArg (fun n => some (Value.slice _ n _)) hn1)))) ?_
          refine wa_takeP (i := 5) (d := 37) 5 rfl (by kernel_rfl) (by kernel_rfl) (by kernel_rfl) rfl rfl rfl (fun w12 => run_move rfl rfl) ?_
          refine wa_takeP (i := 6) (d := 38) 4 rfl (by kernel_rfl) (by kernel_rfl) (by kernel_rfl) rfl rfl rfl (fun w13 => run_move rfl rfl) ?_
          refine wa_take (i := 7) (d := 39) 3 rfl (by kernel_rfl) (by kernel_rfl) (by kernel_rfl) rfl rfl rfl (fun M11 N8 w14 hle11 S17 => .inl (run_indexR (C := (cdV 22)) (i := 0) ((max (ga l k2) (-(ga l k2)) - 1).toNat + 1) rfl rfl rfl sl27 S17.suf rfl (by first | rfl | omega) (by first | omega | (simp only [List.length_set, List.length_append, List.length_replicate, List.length_singleton, List.length_cons, List.length_nil]; omega)))) ?_
          obtain ⟨hn2, hr3⟩ := hdt2.2 ((max (ga l k2) (-(ga l k2)) - 1).toNat + 1) (by first | omega | (simp only [List.length_set, List.length_append, List.length_replicate, List.length_singleton, List.length_cons, List.length_nil]; omega))
          refine wa_take (i := 8) (d := 40) 2 rfl (by kernel_rfl) (by kernel_rfl) (by kernel_rfl) rfl rfl rfl (fun M12 N9 w15 hle12 S18 => .inl (run_load1 rfl rfl Try.underlying22 rfl (S18.suf.rowc (i := 0) (e := (max (ga l k2) (-(ga l k2)) - 1).toNat + 1) (j := 0) rfl (by first | omega | (simp only [List.length_set, List.length_append, List.length_replicate, List.length_singleton, List.length_cons, List.length_nil]; omega)) rfl (congrArg (fun n => some (Value.slice _ n _)) hn2)))) ?_
          refine wa_takeP (i := 9) (d := 9) 1 rfl (by kernel_rfl) (by kernel_rfl) (by kernel_rfl) rfl rfl rfl (fun w16 => run_assign rfl rfl) ?_
          refine wa_takeP (i := 10) (d := 10) 0 rfl (by kernel_rfl) (by kernel_rfl) (by kernel_rfl) rfl rfl rfl (fun w17 => run_assign rfl rfl) ?_
          refine wa_end (by kernel_rfl) (fun w18 S21 => ?_)
          refine nm_sub [(1, _), (5, _), (7, _), (8, _), (9, _), (10, _)] ⟨rfl, rfl, rfl, rfl, rfl, rfl, trivial⟩ ?_
          refine nm_thn ?_
          refine ws_seqN ActOf_n39 ActOf_n40 rfl rfl rfl ?_
          refine ws_region rfl ?_
          refine wl_op (k := 0) (k' := 1) rfl rfl rfl (wo_run rfl rfl (run_move rfl rfl) ?_)
          refine wl_op (k := 1) (k' := 2) rfl rfl rfl (wo_run rfl rfl (run_move rfl rfl) ?_)
          refine wl_op (k := 2) (k' := 3) rfl rfl rfl (wo_run rfl rfl (run_indexM (C := cdInt) k2 rfl rfl rfl sl22 (by first | rfl | omega) hl (by first | omega | (simp only [List.length_set, List.length_append, List.length_replicate, List.length_singleton, List.length_cons, List.length_nil]; omega))) ?_)
          refine wl_op (k := 3) (k' := 4) rfl rfl rfl (wo_run rfl rfl (run_load1 rfl rfl Try.underlying3 rfl (hl.cell S21.um (i := k2) (by first | omega | (simp only [List.length_set, List.length_append, List.length_replicate, List.length_singleton, List.length_cons, List.length_nil]; omega)) 0 rfl rfl)) ?_)
          refine wl_op (k := 4) (k' := 5) rfl rfl rfl (wo_run rfl rfl (run_gtr rfl rfl rfl) ?_)
          refine wl_end rfl ?_
          refine nm_sub [(1, _), (5, _), (7, _), (8, _), (9, _), (10, _), (45, _)] ⟨rfl, rfl, rfl, rfl, rfl, rfl, rfl, trivial⟩ ?_
          refine nm_thn ?_
          refine ws_condN ActOf_n41 ActOf_n42 rfl rfl rfl rfl (fun hb45 => ?_) (fun hb45 => ?_)
          · have hb45 := of_decide_eq_true hb45
            refine ws_seqN ActOf_n43 ActOf_n44 rfl rfl rfl ?_
            refine ws_region rfl ?_
            refine wl_op (k := 0) (k' := 1) rfl rfl rfl (wo_run rfl rfl (run_move rfl rfl) ?_)
            refine wl_op (k := 1) (k' := 2) rfl rfl rfl (wo_run rfl rfl (run_move rfl rfl) ?_)
            refine wl_op (k := 2) (k' := 3) rfl rfl rfl (wo_run rfl rfl (run_sub rfl rfl rfl (by first | omega | (simp only [List.length_set, List.length_append, List.length_replicate, List.length_singleton, List.length_cons, List.length_nil]; omega))) ?_)
            refine wl_op (k := 3) (k' := 4) rfl rfl rfl (wo_run rfl rfl (run_move rfl rfl) ?_)
            refine wl_op (k := 4) (k' := 5) rfl rfl rfl (wo_run rfl rfl (run_move rfl rfl) ?_)
            refine wl_op (k := 5) (k' := 6) rfl rfl rfl (wo_ct rfl rfl rfl rfl rfl rfl rfl cf30 S21 (glue_t (ga tb2 ((max (ga l k2) (-(ga l k2)) - 1).toNat)) (ga tb2 ((max (ga l k2) (-(ga l k2)) - 1).toNat + 1)) (hr2.mono (Hp.le_un _ _)) (hr3.mono (Hp.le_un _ _)) ((by first | exact hia.1 | exact hib.1 | exact hia.1.inv_ | exact hib.1.inv_ | exact hia.1.glu_ hib.1 | exact hib.1.inv_.glu_ hia.1)) ((by first | exact hia.1 | exact hib.1 | exact hia.1.inv_ | exact hib.1.inv_ | exact hia.1.glu_ hib.1 | exact hib.1.inv_.glu_ hia.1)) ((by have g1 := gluW_len (ga tb2 (max (ga l k2) (-(ga l k2)) - 1).toNat) (ga tb2 ((max (ga l k2) (-(ga l k2)) - 1).toNat + 1)); have g2 := gluW_len (invW (ga tb2 ((max (ga l k2) (-(ga l k2)) - 1).toNat + 1))) (ga tb2 (max (ga l k2) (-(ga l k2)) - 1).toNat); have i1 := invW_len (ga tb2 (max (ga l k2) (-(ga l k2)) - 1).toNat); have i2 := invW_len (ga tb2 ((max (ga l k2) (-(ga l k2)) - 1).toNat + 1)); omega)) S21.lend) ?_)
            intro vw19 w19 M15 hle15 S22 hRw19; clear S21
            replace hl := hl.mono (Hp.un_mono hle15 S22.mx)
            replace hdt := hdt.mono hle15
            replace hdt2 := hdt2.mono hle15
            replace hr2 := hr2.mono hle15
            replace hr3 := hr3.mono hle15
            obtain ⟨A1, c1, rfl, hr4⟩ := hRw19
            refine wl_op (k := 6) (k' := 7) rfl rfl rfl (wo_run rfl rfl (run_move rfl rfl) ?_)
            refine wl_op (k := 7) (k' := 8) rfl rfl rfl (wo_ct rfl rfl rfl rfl rfl rfl rfl cf31 S22 (recip_t (ga tb2 ((max (ga l k2) (-(ga l k2)) - 1).toNat)) (hr2.mono (Hp.le_un _ _)) ((hok.2 _ (by omega)).1) S22.lend) ?_)
            intro vw20 w20 M16 hle16 S23 hRw20; clear S22
            replace hl := hl.mono (Hp.un_mono hle16 S23.mx)
            replace hdt := hdt.mono hle16
            replace hdt2 := hdt2.mono hle16
            replace hr2 := hr2.mono hle16
            replace hr3 := hr3.mono hle16
            replace hr4 := hr4.mono hle16
            obtain ⟨A2, c2, rfl, hr5⟩ := hRw20
            refine wl_op (k := 8) (k' := 9) rfl rfl rfl (wo_ct rfl rfl rfl rfl rfl rfl rfl cf30 S23 (glue_t (gluW (ga tb2 ((max (ga l k2) (-(ga l k2)) - 1).toNat)) (ga tb2 ((max (ga l k2) (-(ga l k2)) - 1).toNat + 1))) (invW (ga tb2 ((max (ga l k2) (-(ga l k2)) - 1).toNat))) (hr4.mono (Hp.le_un _ _)) (hr5.mono (Hp.le_un _ _)) ((by first | exact hia.1 | exact hib.1 | exact hia.1.inv_ | exact hib.1.inv_ | exact hia.1.glu_ hib.1 | exact hib.1.inv_.glu_ hia.1)) ((by first | exact hia.1 | exact hib.1 | exact hia.1.inv_ | exact hib.1.inv_ | exact hia.1.glu_ hib.1 | exact hib.1.inv_.glu_ hia.1)) ((by have g1 := gluW_len (ga tb2 (max (ga l k2) (-(ga l k2)) - 1).toNat) (ga tb2 ((max (ga l k2) (-(ga l k2)) - 1).toNat + 1)); have g2 := gluW_len (invW (ga tb2 ((max (ga l k2) (-(ga l k2)) - 1).toNat + 1))) (ga tb2 (max (ga l k2) (-(ga l k2)) - 1).toNat); have i1 := invW_len (ga tb2 (max (ga l k2) (-(ga l k2)) - 1).toNat); have i2 := invW_len (ga tb2 ((max (ga l k2) (-(ga l k2)) - 1).toNat + 1)); omega)) S23.lend) ?_)
            intro vw21 w21 M17 hle17 S24 hRw21; clear S23
            replace hl := hl.mono (Hp.un_mono hle17 S24.mx)
            replace hdt := hdt.mono hle17
            replace hdt2 := hdt2.mono hle17
            replace hr2 := hr2.mono hle17
            replace hr3 := hr3.mono hle17
            replace hr4 := hr4.mono hle17
            replace hr5 := hr5.mono hle17
            obtain ⟨A3, c3, rfl, hr6⟩ := hRw21
            refine wl_op (k := 9) (k' := 10) rfl rfl rfl (wo_run rfl rfl (run_indexR (C := (cdV 22)) (i := 0) ((max (ga l k2) (-(ga l k2)) - 1).toNat) rfl rfl rfl sl27 S24 rfl (by first | rfl | omega) (by first | omega | (simp only [List.length_set, List.length_append, List.length_replicate, List.length_singleton, List.length_cons, List.length_nil]; omega))) ?_)
            refine wl_op (k := 10) (k' := 11) rfl rfl rfl (wo_storeR (C := (cdV 22)) (i := 0) (e := (max (ga l k2) (-(ga l k2)) - 1).toNat) (j := 0) (us := [_]) (H' := [_]) (⟨A3, (gluW (gluW (ga tb2 ((max (ga l k2) (-(ga l k2)) - 1).toNat)) (ga tb2 ((max (ga l k2) (-(ga l k2)) - 1).toNat + 1))) (invW (ga tb2 ((max (ga l k2) (-(ga l k2)) - 1).toNat)))).length, c3⟩ : SlV) rfl rfl S24 rfl (by first | omega | (simp only [List.length_set, List.length_append, List.length_replicate, List.length_singleton, List.length_cons, List.length_nil]; omega)) rfl rfl rfl sz22 rfl rfl rfl rfl ?_)
            intro w22 S25; clear S24
            have hd2 := hdt2.set_ hr6 ((max (ga l k2) (-(ga l k2)) - 1).toNat) (by first | omega | (simp only [List.length_set, List.length_append, List.length_replicate, List.length_singleton, List.length_cons, List.length_nil]; omega))
            refine wl_end rfl ?_
            refine nm_sub [(1, _), (5, _), (7, _), (8, _), (9, _)] ⟨rfl, rfl, rfl, rfl, rfl, trivial⟩ ?_
            refine nm_thn ?_
            refine ws_region rfl ?_
            refine wl_op (k := 0) (k' := 1) rfl rfl rfl (wo_run rfl rfl (run_move rfl rfl) ?_)
            refine wl_op (k := 1) (k' := 2) rfl rfl rfl (wo_run rfl rfl (run_move rfl rfl) ?_)
            refine wl_op (k := 2) (k' := 3) rfl rfl rfl (wo_run rfl rfl (run_move rfl rfl) ?_)
            refine wl_op (k := 3) (k' := 4) rfl rfl rfl (wo_run rfl rfl (run_indexR (C := (cdV 22)) (i := 0) ((max (ga l k2) (-(ga l k2)) - 1).toNat + 1) rfl rfl rfl sl27 S25 rfl (by first | rfl | omega) (by first | omega | (simp only [List.length_set, List.length_append, List.length_replicate, List.length_singleton, List.length_cons, List.length_nil]; omega))) ?_)
            refine wl_op (k := 4) (k' := 5) rfl rfl rfl (wo_storeR (C := (cdV 22)) (i := 0) (e := (max (ga l k2) (-(ga l k2)) - 1).toNat + 1) (j := 0) (us := [_]) (H' := [_]) (⟨(ga tv2 ((max (ga l k2) (-(ga l k2)) - 1).toNat)).A, (ga tb2 ((max (ga l k2) (-(ga l k2)) - 1).toNat)).length, (ga tv2 ((max (ga l k2) (-(ga l k2)) - 1).toNat)).c⟩ : SlV) rfl rfl S25 rfl (by first | omega | (simp only [List.length_set, List.length_append, List.length_replicate, List.length_singleton, List.length_cons, List.length_nil]; omega)) rfl rfl rfl sz22 rfl rfl rfl rfl ?_)
            intro w23 S26; clear S25
            have hd3 := hd2.set_ hr2 ((max (ga l k2) (-(ga l k2)) - 1).toNat + 1) (by first | omega | (simp only [List.length_set, List.length_append, List.length_replicate, List.length_singleton, List.length_cons, List.length_nil]; omega))
            refine wl_end rfl ?_
            refine nm_blk ?_
            refine nm_sub [(1, _), (5, _), (7, _)] ⟨rfl, rfl, rfl, trivial⟩ ?_
            refine nm_thn ?_
            refine ws_region rfl ?_
            refine wl_op (k := 0) (k' := 1) rfl rfl rfl (wo_run rfl rfl (run_move rfl rfl) ?_)
            refine wl_op (k := 1) (k' := 2) rfl rfl rfl (wo_run rfl rfl (run_add rfl rfl rfl (by first | omega | (simp only [List.length_set, List.length_append, List.length_replicate, List.length_singleton, List.length_cons, List.length_nil]; omega))) ?_)
            refine wl_op (k := 2) (k' := 3) rfl rfl rfl (wo_run rfl rfl (run_assign rfl rfl) ?_)
            refine wl_end rfl ?_
            refine nm_lp ?_
            intro ax_ hax_
            refine ⟨_, ?hq4m, ⟨k2 + 1, b2 * 3, _, ((tb2.set ((max (ga l k2) (-(ga l k2)) - 1).toNat) (gluW (gluW (ga tb2 ((max (ga l k2) (-(ga l k2)) - 1).toNat)) (ga tb2 ((max (ga l k2) (-(ga l k2)) - 1).toNat + 1))) (invW (ga tb2 ((max (ga l k2) (-(ga l k2)) - 1).toNat))))).set ((max (ga l k2) (-(ga l k2)) - 1).toNat + 1) (ga tb2 ((max (ga l k2) (-(ga l k2)) - 1).toNat))), _, _, (((hle3.trans hle15).trans hle16).trans hle17), rfl, hax_.sub ⟨rfl, rfl, rfl, trivial⟩, S26.pick [0] [_] (by decide) ⟨rfl, trivial⟩, ?hq4f0, ?hq4f1, ?hq4f2, ?hq4f3, ?hq4f4, ?hq4f5⟩⟩
            case hq4f0 => omega
            case hq4f1 => (rw [actP_take _ _ _ (by omega), ← hact]; first | exact stepA_p hia9 (by omega) | exact stepA_n hib9 (by omega))
            case hq4f2 => (first | (rw [stepA_p hia9 (by omega)]; exact hok.step (hwb k2 (by omega))) | (rw [stepA_n hib9 (by omega)]; exact hok.step (hwb k2 (by omega))))
            case hq4f3 => (rw [hb2, Nat.pow_succ])
            case hq4f4 => (first | (rw [stepA_p hia9 (by omega)]; exact hred.step hok.1 (hwb k2 (by omega))) | (rw [stepA_n hib9 (by omega)]; exact hred.step hok.1 (hwb k2 (by omega))))
            case hq4f5 => exact hd3
            case hq4m => omega
          · have hb45 := of_decide_eq_false hb45
            refine ws_seqN ActOf_n45 ActOf_n46 rfl rfl rfl ?_
            refine ws_region rfl ?_
            refine wl_op (k := 0) (k' := 1) rfl rfl rfl (wo_run rfl rfl (run_move rfl rfl) ?_)
            refine wl_op (k := 1) (k' := 2) rfl rfl rfl (wo_run rfl rfl (run_move rfl rfl) ?_)
            refine wl_op (k := 2) (k' := 3) rfl rfl rfl (wo_run rfl rfl (run_sub rfl rfl rfl (by first | omega | (simp only [List.length_set, List.length_append, List.length_replicate, List.length_singleton, List.length_cons, List.length_nil]; omega))) ?_)
            refine wl_op (k := 3) (k' := 4) rfl rfl rfl (wo_run rfl rfl (run_move rfl rfl) ?_)
            refine wl_op (k := 4) (k' := 5) rfl rfl rfl (wo_run rfl rfl (run_indexR (C := (cdV 22)) (i := 0) ((max (ga l k2) (-(ga l k2)) - 1).toNat) rfl rfl rfl sl27 S21 rfl (by first | rfl | omega) (by first | omega | (simp only [List.length_set, List.length_append, List.length_replicate, List.length_singleton, List.length_cons, List.length_nil]; omega))) ?_)
            refine wl_op (k := 5) (k' := 6) rfl rfl rfl (wo_storeR (C := (cdV 22)) (i := 0) (e := (max (ga l k2) (-(ga l k2)) - 1).toNat) (j := 0) (us := [_]) (H' := [_]) (⟨(ga tv2 ((max (ga l k2) (-(ga l k2)) - 1).toNat + 1)).A, (ga tb2 ((max (ga l k2) (-(ga l k2)) - 1).toNat + 1)).length, (ga tv2 ((max (ga l k2) (-(ga l k2)) - 1).toNat + 1)).c⟩ : SlV) rfl rfl S21 rfl (by first | omega | (simp only [List.length_set, List.length_append, List.length_replicate, List.length_singleton, List.length_cons, List.length_nil]; omega)) rfl rfl rfl sz22 rfl rfl rfl rfl ?_)
            intro w24 S27; clear S21
            have hd4 := hdt2.set_ hr3 ((max (ga l k2) (-(ga l k2)) - 1).toNat) (by first | omega | (simp only [List.length_set, List.length_append, List.length_replicate, List.length_singleton, List.length_cons, List.length_nil]; omega))
            refine wl_end rfl ?_
            refine nm_sub [(1, _), (5, _), (7, _), (8, _), (9, _), (10, _)] ⟨rfl, rfl, rfl, rfl, rfl, rfl, trivial⟩ ?_
            refine nm_thn ?_
            refine ws_region rfl ?_
            refine wl_op (k := 0) (k' := 1) rfl rfl rfl (wo_run rfl rfl (run_move rfl rfl) ?_)
            refine wl_op (k := 1) (k' := 2) rfl rfl rfl (wo_run rfl rfl (run_move rfl rfl) ?_)
            refine wl_op (k := 2) (k' := 3) rfl rfl rfl (wo_run rfl rfl (run_move rfl rfl) ?_)
            refine wl_op (k := 3) (k' := 4) rfl rfl rfl (wo_ct rfl rfl rfl rfl rfl rfl rfl cf31 S27 (recip_t (ga tb2 ((max (ga l k2) (-(ga l k2)) - 1).toNat + 1)) (hr3.mono (Hp.le_un _ _)) ((hok.2 _ (by omega)).1) S27.lend) ?_)
            intro vw25 w25 M18 hle18 S28 hRw25; clear S27
            replace hl := hl.mono (Hp.un_mono hle18 S28.mx)
            replace hdt := hdt.mono hle18
            replace hdt2 := hdt2.mono hle18
            replace hr2 := hr2.mono hle18
            replace hr3 := hr3.mono hle18
            replace hd4 := hd4.mono hle18
            obtain ⟨A4, c4, rfl, hr7⟩ := hRw25
            refine wl_op (k := 4) (k' := 5) rfl rfl rfl (wo_run rfl rfl (run_move rfl rfl) ?_)
            refine wl_op (k := 5) (k' := 6) rfl rfl rfl (wo_ct rfl rfl rfl rfl rfl rfl rfl cf30 S28 (glue_t (invW (ga tb2 ((max (ga l k2) (-(ga l k2)) - 1).toNat + 1))) (ga tb2 ((max (ga l k2) (-(ga l k2)) - 1).toNat)) (hr7.mono (Hp.le_un _ _)) (hr2.mono (Hp.le_un _ _)) ((by first | exact hia.1 | exact hib.1 | exact hia.1.inv_ | exact hib.1.inv_ | exact hia.1.glu_ hib.1 | exact hib.1.inv_.glu_ hia.1)) ((by first | exact hia.1 | exact hib.1 | exact hia.1.inv_ | exact hib.1.inv_ | exact hia.1.glu_ hib.1 | exact hib.1.inv_.glu_ hia.1)) ((by have g1 := gluW_len (ga tb2 (max (ga l k2) (-(ga l k2)) - 1).toNat) (ga tb2 ((max (ga l k2) (-(ga l k2)) - 1).toNat + 1)); have g2 := gluW_len (invW (ga tb2 ((max (ga l k2) (-(ga l k2)) - 1).toNat + 1))) (ga tb2 (max (ga l k2) (-(ga l k2)) - 1).toNat); have i1 := invW_len (ga tb2 (max (ga l k2) (-(ga l k2)) - 1).toNat); have i2 := invW_len (ga tb2 ((max (ga l k2) (-(ga l k2)) - 1).toNat + 1)); omega)) S28.lend) ?_)
            intro vw26 w26 M19 hle19 S29 hRw26; clear S28
            replace hl := hl.mono (Hp.un_mono hle19 S29.mx)
            replace hdt := hdt.mono hle19
            replace hdt2 := hdt2.mono hle19
            replace hr2 := hr2.mono hle19
            replace hr3 := hr3.mono hle19
            replace hd4 := hd4.mono hle19
            replace hr7 := hr7.mono hle19
            obtain ⟨A5, c5, rfl, hr8⟩ := hRw26
            refine wl_op (k := 6) (k' := 7) rfl rfl rfl (wo_run rfl rfl (run_move rfl rfl) ?_)
            refine wl_op (k := 7) (k' := 8) rfl rfl rfl (wo_ct rfl rfl rfl rfl rfl rfl rfl cf30 S29 (glue_t (gluW (invW (ga tb2 ((max (ga l k2) (-(ga l k2)) - 1).toNat + 1))) (ga tb2 ((max (ga l k2) (-(ga l k2)) - 1).toNat))) (ga tb2 ((max (ga l k2) (-(ga l k2)) - 1).toNat + 1)) (hr8.mono (Hp.le_un _ _)) (hr3.mono (Hp.le_un _ _)) ((by first | exact hia.1 | exact hib.1 | exact hia.1.inv_ | exact hib.1.inv_ | exact hia.1.glu_ hib.1 | exact hib.1.inv_.glu_ hia.1)) ((by first | exact hia.1 | exact hib.1 | exact hia.1.inv_ | exact hib.1.inv_ | exact hia.1.glu_ hib.1 | exact hib.1.inv_.glu_ hia.1)) ((by have g1 := gluW_len (ga tb2 (max (ga l k2) (-(ga l k2)) - 1).toNat) (ga tb2 ((max (ga l k2) (-(ga l k2)) - 1).toNat + 1)); have g2 := gluW_len (invW (ga tb2 ((max (ga l k2) (-(ga l k2)) - 1).toNat + 1))) (ga tb2 (max (ga l k2) (-(ga l k2)) - 1).toNat); have i1 := invW_len (ga tb2 (max (ga l k2) (-(ga l k2)) - 1).toNat); have i2 := invW_len (ga tb2 ((max (ga l k2) (-(ga l k2)) - 1).toNat + 1)); omega)) S29.lend) ?_)
            intro vw27 w27 M20 hle20 S30 hRw27; clear S29
            replace hl := hl.mono (Hp.un_mono hle20 S30.mx)
            replace hdt := hdt.mono hle20
            replace hdt2 := hdt2.mono hle20
            replace hr2 := hr2.mono hle20
            replace hr3 := hr3.mono hle20
            replace hd4 := hd4.mono hle20
            replace hr7 := hr7.mono hle20
            replace hr8 := hr8.mono hle20
            obtain ⟨A6, c6, rfl, hr9⟩ := hRw27
            refine wl_op (k := 8) (k' := 9) rfl rfl rfl (wo_run rfl rfl (run_indexR (C := (cdV 22)) (i := 0) ((max (ga l k2) (-(ga l k2)) - 1).toNat + 1) rfl rfl rfl sl27 S30 rfl (by first | rfl | omega) (by first | omega | (simp only [List.length_set, List.length_append, List.length_replicate, List.length_singleton, List.length_cons, List.length_nil]; omega))) ?_)
            refine wl_op (k := 9) (k' := 10) rfl rfl rfl (wo_storeR (C := (cdV 22)) (i := 0) (e := (max (ga l k2) (-(ga l k2)) - 1).toNat + 1) (j := 0) (us := [_]) (H' := [_]) (⟨A6, (gluW (gluW (invW (ga tb2 ((max (ga l k2) (-(ga l k2)) - 1).toNat + 1))) (ga tb2 ((max (ga l k2) (-(ga l k2)) - 1).toNat))) (ga tb2 ((max (ga l k2) (-(ga l k2)) - 1).toNat + 1))).length, c6⟩ : SlV) rfl rfl S30 rfl (by first | omega | (simp only [List.length_set, List.length_append, List.length_replicate, List.length_singleton, List.length_cons, List.length_nil]; omega)) rfl rfl rfl sz22 rfl rfl rfl rfl ?_)
            intro w28 S31; clear S30
            have hd5 := hd4.set_ hr9 ((max (ga l k2) (-(ga l k2)) - 1).toNat + 1) (by first | omega | (simp only [List.length_set, List.length_append, List.length_replicate, List.length_singleton, List.length_cons, List.length_nil]; omega))
            refine wl_end rfl ?_
            refine nm_blk ?_
            refine nm_sub [(1, _), (5, _), (7, _)] ⟨rfl, rfl, rfl, trivial⟩ ?_
            refine nm_thn ?_
            refine ws_region rfl ?_
            refine wl_op (k := 0) (k' := 1) rfl rfl rfl (wo_run rfl rfl (run_move rfl rfl) ?_)
            refine wl_op (k := 1) (k' := 2) rfl rfl rfl (wo_run rfl rfl (run_add rfl rfl rfl (by first | omega | (simp only [List.length_set, List.length_append, List.length_replicate, List.length_singleton, List.length_cons, List.length_nil]; omega))) ?_)
            refine wl_op (k := 2) (k' := 3) rfl rfl rfl (wo_run rfl rfl (run_assign rfl rfl) ?_)
            refine wl_end rfl ?_
            refine nm_lp ?_
            intro ax_ hax_
            refine ⟨_, ?hq5m, ⟨k2 + 1, b2 * 3, _, ((tb2.set ((max (ga l k2) (-(ga l k2)) - 1).toNat) (ga tb2 ((max (ga l k2) (-(ga l k2)) - 1).toNat + 1))).set ((max (ga l k2) (-(ga l k2)) - 1).toNat + 1) (gluW (gluW (invW (ga tb2 ((max (ga l k2) (-(ga l k2)) - 1).toNat + 1))) (ga tb2 ((max (ga l k2) (-(ga l k2)) - 1).toNat))) (ga tb2 ((max (ga l k2) (-(ga l k2)) - 1).toNat + 1)))), _, _, (((hle3.trans hle18).trans hle19).trans hle20), rfl, hax_.sub ⟨rfl, rfl, rfl, trivial⟩, S31.pick [0] [_] (by decide) ⟨rfl, trivial⟩, ?hq5f0, ?hq5f1, ?hq5f2, ?hq5f3, ?hq5f4, ?hq5f5⟩⟩
            case hq5f0 => omega
            case hq5f1 => (rw [actP_take _ _ _ (by omega), ← hact]; first | exact stepA_p hia9 (by omega) | exact stepA_n hib9 (by omega))
            case hq5f2 => (first | (rw [stepA_p hia9 (by omega)]; exact hok.step (hwb k2 (by omega))) | (rw [stepA_n hib9 (by omega)]; exact hok.step (hwb k2 (by omega))))
            case hq5f3 => (rw [hb2, Nat.pow_succ])
            case hq5f4 => (first | (rw [stepA_p hia9 (by omega)]; exact hred.step hok.1 (hwb k2 (by omega))) | (rw [stepA_n hib9 (by omega)]; exact hred.step hok.1 (hwb k2 (by omega))))
            case hq5f5 => exact hd5
            case hq5m => omega
        · have hb24 := of_decide_eq_false hb24
          refine ws_exit rfl rfl ?_
          refine nm_sub [(5, _)] ⟨rfl, trivial⟩ ?_
          refine nm_thn ?_
          refine ws_seqN ActOf_n47 ActOf_n48 rfl rfl rfl ?_
          refine ws_region rfl ?_
          refine wl_op (k := 0) (k' := 1) rfl rfl rfl (wo_run rfl rfl (run_move rfl rfl) ?_)
          refine wl_op (k := 1) (k' := 2) rfl rfl rfl (wo_run rfl rfl (run_assign rfl rfl) ?_)
          refine wl_end rfl ?_
          refine nm_sub [(4, _)] ⟨rfl, trivial⟩ ?_
          refine nm_thn ?_
          obtain ⟨M21, hle21, S32, ⟨A7, c7, e1, hr10⟩⟩ := S8.pubrow (i := 0) (H' := [_]) rfl rfl (by show _ * 24 ≤ _; first | omega | (simp only [List.length_set, List.length_append, List.length_replicate, List.length_singleton, List.length_cons, List.length_nil]; omega))
          clear S8; subst e1
          replace hl := hl.mono (Hp.un_mono hle21 S32.mx)
          replace hdt := hdt.mono hle21
          replace hdt2 := hdt2.mono hle21
          refine ws_ret hC [_] rfl rfl ⟨rfl, trivial⟩ ?_
          refine ⟨_, rfl, _, (hle1.trans hle3).trans hle21, (S32.pick [] [] (by decide) trivial), ?_⟩
          obtain rfl : k2 = l.length := by omega
          have e : tb2 = actP m l := by rw [hact, List.take_length]
          subst e
          exact ⟨_, _, _, rfl, hr10, hdt2⟩

end Go.Proofs.Ythfiblbkkjcliaa
