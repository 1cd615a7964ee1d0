/- Walks printed by eng.py. -/
import Derived.Test.YthfiblbkkjcliaaB3
set_option linter.unusedSimpArgs false
set_option linter.unusedVariables false
namespace Go.Proofs.Ythfiblbkkjcliaa
open Go.ChangeShapes Go.WideShapes Go.ChangeAt Go.RowKit
/-- What a letter does to the table. -/
def stepA (t : List (List Int)) (x : Int) : List (List Int) :=
  let i := (max x (-x) - 1).toNat
  if 0 < x then (t.set i (prodW [ga t i, ga t (i + 1), invW (ga t i)])).set (i + 1) (ga t i)
  else (t.set i (ga t (i + 1))).set (i + 1) (prodW [invW (ga t (i + 1)), ga t i, ga t (i + 1)])
def unitA (n : Nat) : List (List Int) := (List.range n).map (fun (i : Nat) => [(i : Int) + 1])
def actP (n : Nat) (w : List Int) : List (List Int) := w.foldl stepA (unitA n)
theorem actP_take (n : Nat) (w : List Int) (k : Nat) (h : k < w.length) : actP n (w.take (k + 1)) = stepA (actP n (w.take k)) (ga w k) := by
  unfold actP; rw [take_ga _ _ h, List.foldl_append]; rfl
/-- A table of small words, none longer than b. -/
def okA (n b : Nat) (t : List (List Int)) : Prop := t.length = n ∧ ∀ i, i < n → smW (ga t i) ∧ (ga t i).length ≤ b
theorem smW.glu_ {xs : List Int} (h : smW xs) {ys : List Int} (hy : smW ys) : smW (gluW xs ys) := by
  unfold gluW
  induction ys generalizing xs with
  | nil => exact h
  | cons y ys ih =>
    exact ih (h.push_ (hy 0 (by simp))) (fun i hi => hy (i + 1) (by simpa using hi))
theorem smW.nil_ : smW [] := fun i hi => by simp at hi
theorem smW.inv_ {xs : List Int} (h : smW xs) : smW (invW xs) := fun i hi => by
  rw [invW_len] at hi
  rw [invW_ga _ _ hi]
  have := h (xs.length - 1 - i) (by omega)
  omega
theorem prod3_sm {a b c : List Int} (ha : smW a) (hb : smW b) (hc : smW c) : smW (prodW [a, b, c]) := ((smW.nil_.glu_ ha).glu_ hb).glu_ hc
theorem prod3_len (a b c : List Int) : (prodW [a, b, c]).length ≤ a.length + b.length + c.length := by
  have := prodW_len [a, b, c]; simp [totW] at this; omega
theorem okA.unit (n : Nat) (hn : n ≤ 6) : okA n 1 (unitA n) := by
  refine ⟨by simp [unitA], fun i hi => ?_⟩
  have e : ga (unitA n) i = [(i : Int) + 1] := by rw [ga_eq (by simpa [unitA] using hi)]; simp [unitA]
  rw [e]
  exact ⟨fun j hj => by (simp at hj; subst hj; show -100 < (i : Int) + 1 ∧ (i : Int) + 1 < 100; omega), by simp⟩
theorem okA.step {n b : Nat} {t : List (List Int)} (h : okA n b t) {x : Int} (hx : 1 ≤ max x (-x) ∧ max x (-x) < n) : okA n (b * 3) (stepA t x) := by
  obtain ⟨hl, ht⟩ := h
  have hi : (max x (-x) - 1).toNat + 1 < n := by omega
  have t1 := ht _ (show (max x (-x) - 1).toNat < n by omega)
  have t2 := ht _ hi
  refine ⟨by unfold stepA; dsimp only; split <;> simp [hl], fun j hj => ?_⟩
  have tj := ht j hj
  unfold stepA
  dsimp only
  split
  · rw [ga_set _ _ _ _ (by simp; omega)]
    split
    · exact ⟨t1.1, by omega⟩
    · rw [ga_set _ _ _ _ (by omega)]
      split
      · have := prod3_len (ga t (max x (-x) - 1).toNat) (ga t ((max x (-x) - 1).toNat + 1)) (invW (ga t (max x (-x) - 1).toNat))
        rw [invW_len] at this
        exact ⟨prod3_sm t1.1 t2.1 t1.1.inv_, by omega⟩
      · exact ⟨tj.1, by omega⟩
  · rw [ga_set _ _ _ _ (by simp; omega)]
    split
    · have := prod3_len (invW (ga t ((max x (-x) - 1).toNat + 1))) (ga t (max x (-x) - 1).toNat) (ga t ((max x (-x) - 1).toNat + 1))
      rw [invW_len] at this
      exact ⟨prod3_sm t2.1.inv_ t1.1 t2.1, by omega⟩
    · rw [ga_set _ _ _ _ (by omega)]
      split
      · exact ⟨t2.1, by omega⟩
      · exact ⟨tj.1, by omega⟩

def actR (n : Int) (w : List Int) : List (List Int) × Int := if checkI n [w] = 0 then (actP n.toNat w, 0) else ([], checkI n [w])
theorem tb_unit {m : Nat} {tb : List (List Int)} (h : tb.length = m) (hg : ∀ j, j < m → ga tb j = [(j : Int) + 1]) : tb = unitA m := ga_ext (by simp [unitA, h]) fun i hi => by
  rw [hg i (by omega), ga_eq (by simp [unitA]; omega)]; simp [unitA]
theorem set_self {α : Type} [Inhabited α] (xs : List α) (i : Nat) (h : i < xs.length) : xs.set i (ga xs i) = xs := by
  rw [ga_eq h]; exact List.set_getElem_self h
theorem sm3 {a b c : List Int} (ha : smW a) (hb : smW b) (hc : smW c) : ∀ i, i < [a, b, c].length → smW (ga [a, b, c] i) := fun i hi => by
  have e : i = 0 ∨ i = 1 ∨ i = 2 := by simp at hi; omega
  rcases e with rfl | rfl | rfl
  · exact ha
  · exact hb
  · exact hc
theorem tot3 {a b c : List Int} {n : Nat} (h : (a.length + b.length + c.length) * 8 ≤ n) : totW [a, b, c] * 8 ≤ n := by
  have e : totW [a, b, c] = a.length + b.length + c.length := by simp [totW]; omega
  rw [e]; exact h
def TabE (r : List (List Int) × Int) (u : Value) (M : Hp) : Prop := ∃ A c vs, u = tup [.slice A vs.length c, .int .i64 r.2] ∧ RdA (cdV 22) M A c vs ∧ Rd2 cdInt M vs r.1

noncomputable def Act_n0 : Code := Try.f9.body.getD .skip
noncomputable def Act_n1 : Code := cL Act_n0
noncomputable def Act_n2 : Code := cR Act_n0
noncomputable def Act_n3 : Code := cL Act_n2
noncomputable def Act_n4 : Code := cR Act_n2
noncomputable def Act_n5 : Code := cL Act_n3
noncomputable def Act_n6 : Code := cR Act_n3
noncomputable def Act_n7 : Code := cL Act_n6
noncomputable def Act_n8 : Code := cR Act_n6
noncomputable def Act_n9 : Code := cL Act_n8
noncomputable def Act_n10 : Code := cR Act_n8
noncomputable def Act_n11 : Code := cL Act_n9
noncomputable def Act_n12 : Code := cR Act_n9
noncomputable def Act_n13 : Code := cL Act_n4
noncomputable def Act_n14 : Code := cR Act_n4
noncomputable def Act_n15 : Code := cL Act_n14
noncomputable def Act_n16 : Code := cR Act_n14
noncomputable def Act_n17 : Code := cL Act_n15
noncomputable def Act_n18 : Code := cR Act_n15
noncomputable def Act_n19 : Code := cL Act_n18
noncomputable def Act_n20 : Code := cL Act_n19
noncomputable def Act_n21 : Code := cL Act_n20
noncomputable def Act_n22 : Code := cR Act_n20
noncomputable def Act_n23 : Code := cL Act_n22
noncomputable def Act_n24 : Code := cR Act_n22
noncomputable def Act_n25 : Code := cL Act_n23
noncomputable def Act_n26 : Code := cR Act_n23
noncomputable def Act_n27 : Code := cL Act_n24
noncomputable def Act_n28 : Code := cR Act_n24
noncomputable def Act_n29 : Code := cL Act_n27
noncomputable def Act_n30 : Code := cL Act_n29
noncomputable def Act_n31 : Code := cR Act_n29
noncomputable def Act_n32 : Code := cL Act_n16
noncomputable def Act_n33 : Code := cR Act_n16
noncomputable def Act_n34 : Code := cL Act_n32
noncomputable def Act_n35 : Code := cR Act_n32
noncomputable def Act_n36 : Code := cL Act_n35
noncomputable def Act_n37 : Code := cL Act_n36
noncomputable def Act_n38 : Code := cL Act_n37
noncomputable def Act_n39 : Code := cR Act_n37
noncomputable def Act_n40 : Code := cL Act_n39
noncomputable def Act_n41 : Code := cR Act_n39
noncomputable def Act_n42 : Code := cL Act_n40
noncomputable def Act_n43 : Code := cR Act_n40
noncomputable def Act_n44 : Code := cL Act_n41
noncomputable def Act_n45 : Code := cR Act_n41
noncomputable def Act_n46 : Code := cL Act_n44
noncomputable def Act_n47 : Code := cL Act_n46
noncomputable def Act_n48 : Code := cR Act_n46
noncomputable def Act_n49 : Code := cL Act_n48
noncomputable def Act_n50 : Code := cR Act_n48
noncomputable def Act_n51 : Code := cL Act_n50
noncomputable def Act_n52 : Code := cR Act_n50
noncomputable def Act_n53 : Code := cL Act_n52
noncomputable def Act_n54 : Code := cR Act_n52
noncomputable def Act_n55 : Code := cL Act_n54
noncomputable def Act_n56 : Code := cR Act_n54
noncomputable def Act_n57 : Code := cL Act_n33
noncomputable def Act_n58 : Code := cR Act_n33
noncomputable def Act_n59 : Code := cL Act_n57
noncomputable def Act_n60 : Code := cR Act_n57
noncomputable def Act_n61 : Code := cL Act_n60
noncomputable def Act_n62 : Code := cL Act_n61
noncomputable def Act_n63 : Code := cL Act_n62
noncomputable def Act_n64 : Code := cR Act_n62
noncomputable def Act_n65 : Code := cL Act_n64
noncomputable def Act_n66 : Code := cR Act_n64
noncomputable def Act_n67 : Code := cL Act_n65
noncomputable def Act_n68 : Code := cR Act_n65
noncomputable def Act_n69 : Code := cL Act_n66
noncomputable def Act_n70 : Code := cR Act_n66
noncomputable def Act_n71 : Code := cL Act_n69
noncomputable def Act_n72 : Code := cL Act_n71
noncomputable def Act_n73 : Code := cR Act_n71
noncomputable def Act_n74 : Code := cL Act_n58
noncomputable def Act_n75 : Code := cR Act_n58
set_option maxRecDepth 10000 in
theorem Act_t {w : World} {M : Hp} {X : Fr} (n : Int) (l : List Int) {lA : Option Addr} {lc : Nat} (hl : RdA cdInt (M.un X.h) lA lc l) (S : SH w M X []) : Ct Try.prog 9 [.int .i64 n, .slice lA l.length lc] w M X (TabE (actR n l)) := by
  unfold Ct
  have rmhl : l.length * 8 ≤ 140737488355328 := hl.room
  refine calls_in (b := Act_n0) Try.func9 rfl Try.ntmps9 rfl (fun C hC => ?_)
  refine ws_sub [(0, _), (1, _)] ⟨rfl, rfl, trivial⟩ ?_
  refine ws_seqN Act_n1 Act_n2 rfl rfl rfl ?_
  refine ws_region rfl ?_
  refine wl_op (k := 0) (k' := 1) rfl rfl rfl (wo_run rfl rfl (run_assign rfl rfl) ?_)
  refine wl_op (k := 1) (k' := 2) rfl rfl rfl (wo_run rfl rfl (run_assign rfl rfl) ?_)
  refine wl_end rfl ?_
  refine nm_sub [(0, _), (1, _)] ⟨rfl, rfl, trivial⟩ ?_
  refine nm_thn ?_
  refine ws_seqN Act_n3 Act_n4 rfl rfl rfl ?_
  refine ws_seqN Act_n5 Act_n6 rfl rfl rfl ?_
  refine ws_region rfl ?_
  refine wl_op (k := 0) (k' := 1) rfl rfl rfl (wo_run rfl rfl (run_move rfl rfl) ?_)
  refine wl_op (k := 1) (k' := 2) rfl rfl rfl (wo_run rfl rfl (run_move rfl rfl) ?_)
  refine wl_op (k := 2) (k' := 3) rfl rfl rfl (wo_buildSlice1 (C := (cdV 22)) (l := [_]) rfl rfl rfl rfl sl27 rfl rfl rfl rfl S ?_)
  intro gb1 w1 S1; clear S
  have hr1 := S1.lendBox (C := (cdV 22)) (z := (⟨lA, l.length, lc⟩ : SlV)) (i := 0) rfl rfl (by decide)
  have hd1 : Rd2 cdInt _ [(⟨lA, l.length, lc⟩ : SlV)] [l] := Rd2.nil_.snoc (hl.mono S1.un_XH)
  have hcall1 := Check_q n [l] hr1 hd1 S1.lend
  refine wl_op (k := 3) (k' := 4) rfl rfl rfl (wo_cq rfl rfl rfl rfl rfl rfl rfl cf22 S1 (hcall1) ?_)
  rintro _ w2 S2 rfl; clear S1
  refine wl_op (k := 4) (k' := 5) rfl rfl rfl (wo_run rfl rfl (run_assign rfl rfl) ?_)
  refine wl_end rfl ?_
  refine nm_sub [(0, _), (1, _), (6, _)] ⟨rfl, rfl, rfl, trivial⟩ ?_
  refine nm_thn ?_
  refine ws_seqN Act_n7 Act_n8 rfl rfl rfl ?_
  refine ws_region rfl ?_
  refine wl_op (k := 0) (k' := 1) rfl rfl rfl (wo_run rfl rfl (run_move rfl rfl) ?_)
  refine wl_op (k := 1) (k' := 2) rfl rfl rfl (wo_run rfl rfl (run_neq rfl rfl rfl) ?_)
  refine wl_end rfl ?_
  refine nm_sub [(0, _), (1, _), (6, _), (20, _)] ⟨rfl, rfl, rfl, rfl, trivial⟩ ?_
  refine nm_thn ?_
  refine ws_condN Act_n9 Act_n10 rfl rfl rfl rfl (fun hb20 => ?_) (fun hb20 => ?_)
  · have hb20 := of_decide_eq_true hb20
    refine ws_seqN Act_n11 Act_n12 rfl rfl rfl ?_
    refine ws_region rfl ?_
    refine wl_op (k := 0) (k' := 1) rfl rfl rfl (wo_run rfl rfl (run_move rfl rfl) ?_)
    refine wl_op (k := 1) (k' := 2) rfl rfl rfl (wo_run rfl rfl (run_assign rfl rfl) ?_)
    refine wl_op (k := 2) (k' := 3) rfl rfl rfl (wo_run rfl rfl (run_assign rfl rfl) ?_)
    refine wl_end rfl ?_
    refine nm_sub [(4, _), (5, _)] ⟨rfl, rfl, trivial⟩ ?_
    refine nm_thn ?_
    refine ws_ret hC [_, _] rfl rfl ⟨rfl, rfl, trivial⟩ ?_
    refine ⟨_, rfl, _, Hp.le_refl _, (S2.pick [] [] (by decide) trivial), ?_⟩
    unfold actR
    rw [if_neg (by omega)]
    exact ⟨none, 0, [], rfl, RdA.nil_, Rd2.nil_⟩
  · have hb20 := of_decide_eq_false hb20
    have hck : checkI n [l] = 0 := by omega
    obtain ⟨hn1, hn2, hwl, hwb⟩ := check_ok hck
    obtain ⟨m, rfl⟩ : ∃ m : Nat, n = (m : Int) := ⟨n.toNat, by omega⟩
    have hrep : (List.replicate m (cdV 22).z).length = m := List.length_replicate
    refine ws_skip rfl ?_
    refine nm_sub [(0, _), (1, _)] ⟨rfl, rfl, trivial⟩ ?_
    refine nm_thn ?_
    refine ws_seqN Act_n13 Act_n14 rfl rfl rfl ?_
    refine ws_region rfl ?_
    refine wl_op (k := 0) (k' := 1) rfl rfl rfl (wo_run rfl rfl (run_move rfl rfl) ?_)
    refine wl_op (k := 1) (k' := 2) rfl rfl rfl (wo_make (C := (cdV 22)) m rfl rfl rfl rfl rfl sl27 (by first | rfl | omega) (by show _ * 24 ≤ _; first | omega | (simp only [List.length_set, List.length_append, List.length_replicate, List.length_singleton, List.length_cons, List.length_nil]; omega)) S2 ?_)
    intro vr1 w3 S3; clear S2
    have hd2 : Rd2 cdInt M (List.replicate m ((cdV 22)).z) (List.replicate m []) := Rd2.rep _
    refine wl_op (k := 2) (k' := 3) rfl rfl rfl (wo_run rfl rfl (run_assign rfl rfl) ?_)
    refine wl_end rfl ?_
    refine nm_sub [(1, _), (7, _)] ⟨rfl, rfl, trivial⟩ ?_
    refine nm_thn ?_
    refine ws_seqN Act_n15 Act_n16 rfl rfl rfl ?_
    refine ws_seqN Act_n17 Act_n18 rfl rfl rfl ?_
    refine ws_region rfl ?_
    refine wl_op (k := 0) (k' := 1) rfl rfl rfl (wo_run rfl rfl (run_move rfl rfl) ?_)
    refine wl_op (k := 1) (k' := 2) rfl rfl rfl (wo_run rfl rfl (run_lenR (C := (cdV 22)) (i := 0) rfl rfl rfl rfl rfl rfl sl27 S3 rfl) ?_)
    refine wl_op (k := 2) (k' := 3) rfl rfl rfl (wo_run rfl rfl (run_move rfl rfl) ?_)
    refine wl_end rfl ?_
    refine nm_sub [(1, _), (7, _), (25, _), (26, _)] ⟨rfl, rfl, rfl, rfl, trivial⟩ ?_
    refine nm_thn ?_
    refine ws_blockN Act_n19 0 rfl rfl rfl ?_
    refine ws_loopE (fun mx_ ax_ wx_ => ∃ (k : Nat) (tv : List SlV) (tb : List (List Int)) (vro : Value) (M1 : Hp), M.le M1 ∧ mx_ = m - k ∧ Env 102 [(1, .slice lA l.length lc), (7, vro), (25, .int .i64 ((List.replicate m (cdV 22).z).length : Int)), (26, .int .i64 (k : Int))] ax_ ∧ SH wx_ M1 X [Rs.row (cdV 22) vro tv] ∧ k ≤ m ∧ tb.length = m ∧ (∀ j, j < k → ga tb j = [(j : Int) + 1]) ∧ Rd2 cdInt M1 tv tb) rfl ?_ ?_
    · intro ax_ hax_
      refine ⟨_, ⟨0, _, (List.replicate m []), _, _, Hp.le_refl _, rfl, hax_.sub ⟨rfl, rfl, rfl, rfl, trivial⟩, S3.pick [0] [_] (by decide) ⟨rfl, trivial⟩, ?hq1f0, ?hq1f1, ?hq1f2, ?hq1f3⟩⟩
      case hq1f0 => omega
      case hq1f1 => simp
      case hq1f2 => (intro j h1; omega)
      case hq1f3 => exact hd2
    · rintro m1 a1 w4 ⟨k, tv, tb, vro, M1, hle1, rfl, he1, S4, hk, htb, hg, hdt⟩
      clear S3
      refine ws_in he1 (c := Act_n20) rfl ?_
      clear he1 a1
      replace hl := hl.mono (Hp.un_mono hle1 S4.mx)
      replace hd2 := hd2.mono hle1
      have htl := hdt.1
      refine ws_seqN Act_n21 Act_n22 rfl rfl rfl ?_
      refine ws_region rfl ?_
      refine wl_op (k := 0) (k' := 1) rfl rfl rfl (wo_run rfl rfl (run_lss rfl rfl rfl) ?_)
      refine wl_end rfl ?_
      refine nm_thn ?_
      refine ws_seqN Act_n23 Act_n24 rfl rfl rfl ?_
      refine ws_condN Act_n25 Act_n26 rfl rfl rfl rfl (fun hb27 => ?_) (fun hb27 => ?_)
      · have hb27 := of_decide_eq_true hb27
        refine ws_skip rfl ?_
        refine nm_sub [(1, _), (7, _), (25, _), (26, _)] ⟨rfl, rfl, rfl, rfl, trivial⟩ ?_
        refine nm_thn ?_
        refine ws_seqN Act_n27 Act_n28 rfl rfl rfl ?_
        refine ws_blockN Act_n29 1 rfl rfl rfl ?_
        refine ws_seqN Act_n30 Act_n31 rfl rfl rfl ?_
        refine ws_region rfl ?_
        refine wl_op (k := 0) (k' := 1) rfl rfl rfl (wo_run rfl rfl (run_move rfl rfl) ?_)
        refine wl_op (k := 1) (k' := 2) rfl rfl rfl (wo_run rfl rfl (run_assign rfl rfl) ?_)
        refine wl_end rfl ?_
        refine nm_sub [(1, _), (7, _), (25, _), (26, _), (8, _)] ⟨rfl, rfl, rfl, rfl, rfl, trivial⟩ ?_
        refine nm_thn ?_
        refine ws_region rfl ?_
        refine wl_op (k := 0) (k' := 1) rfl rfl rfl (wo_run rfl rfl (run_move rfl rfl) ?_)
        refine wl_op (k := 1) (k' := 2) rfl rfl rfl (wo_run rfl rfl (run_move rfl rfl) ?_)
        refine wl_op (k := 2) (k' := 3) rfl rfl rfl (wo_run rfl rfl (run_move rfl rfl) ?_)
        refine wl_op (k := 3) (k' := 4) rfl rfl rfl (wo_run rfl rfl (run_add rfl rfl rfl (by first | omega | (simp only [List.length_set, List.length_append, List.length_replicate, List.length_singleton, List.length_cons, List.length_nil]; omega))) ?_)
        refine wl_op (k := 4) (k' := 5) rfl rfl rfl (wo_buildSlice1 (C := cdInt) (l := [_]) rfl rfl rfl rfl sl22 rfl rfl rfl rfl S4 ?_)
        intro gb2 w5 S5; clear S4
        refine wl_op (k := 5) (k' := 6) rfl rfl rfl (wo_run rfl rfl (run_indexR (C := (cdV 22)) (i := 1) k rfl rfl rfl sl27 S5 rfl (by first | rfl | omega) (by first | omega | (simp only [List.length_set, List.length_append, List.length_replicate, List.length_singleton, List.length_cons, List.length_nil]; omega))) ?_)
        obtain ⟨M2, hle2, S7, hr2⟩ := S5.pubbox (C := cdInt) (z := (k : Int) + 1) (i := 0) (H' := [_, _]) rfl rfl rfl (by decide)
        clear S5
        replace hl := hl.mono (Hp.un_mono hle2 S7.mx)
        replace hd2 := hd2.mono hle2
        replace hdt := hdt.mono hle2
        refine wl_op (k := 6) (k' := 7) rfl rfl rfl (wo_storeR (C := (cdV 22)) (i := 1) (e := k) (j := 0) (us := [_]) (H' := [_, _]) (⟨(some ⟨gb2, 0, none⟩), ([(k : Int) + 1]).length, 1⟩ : SlV) rfl rfl S7 rfl (by first | omega | (simp only [List.length_set, List.length_append, List.length_replicate, List.length_singleton, List.length_cons, List.length_nil]; omega)) rfl rfl rfl sz22 rfl rfl rfl rfl ?_)
        intro w7 S8; clear S7
        have hd3 := hdt.set_ hr2 k (by first | omega | (simp only [List.length_set, List.length_append, List.length_replicate, List.length_singleton, List.length_cons, List.length_nil]; omega))
        refine wl_end rfl ?_
        refine nm_blk ?_
        refine nm_sub [(1, _), (7, _), (25, _), (26, _)] ⟨rfl, rfl, rfl, rfl, trivial⟩ ?_
        refine nm_thn ?_
        refine ws_region rfl ?_
        refine wl_op (k := 0) (k' := 1) rfl rfl rfl (wo_run rfl rfl (run_add rfl rfl rfl (by first | omega | (simp only [List.length_set, List.length_append, List.length_replicate, List.length_singleton, List.length_cons, List.length_nil]; omega))) ?_)
        refine wl_op (k := 1) (k' := 2) rfl rfl rfl (wo_run rfl rfl (run_move rfl rfl) ?_)
        refine wl_end rfl ?_
        refine nm_lp ?_
        intro ax_ hax_
        refine ⟨_, ?hq2m, ⟨k + 1, _, (tb.set k ([(k : Int) + 1])), _, _, (hle1.trans hle2), rfl, hax_.sub ⟨rfl, rfl, rfl, rfl, trivial⟩, S8.pick [1] [_] (by decide) ⟨rfl, trivial⟩, ?hq2f0, ?hq2f1, ?hq2f2, ?hq2f3⟩⟩
        case hq2f0 => first | assumption | omega
        case hq2f1 => simpa using htb
        case hq2f2 => (intro j h1; rw [ga_set _ _ _ _ (by omega)]; split; (rename_i e; rw [e]); exact hg j (by omega))
        case hq2f3 => exact hd3
        case hq2m => omega
      · have hb27 := of_decide_eq_false hb27
        refine ws_exit rfl rfl ?_
        refine nm_sub [(1, _), (7, _)] ⟨rfl, rfl, trivial⟩ ?_
        refine nm_thn ?_
        refine ws_seqN Act_n32 Act_n33 rfl rfl rfl ?_
        refine ws_seqN Act_n34 Act_n35 rfl rfl rfl ?_
        refine ws_region rfl ?_
        refine wl_op (k := 0) (k' := 1) rfl rfl rfl (wo_run rfl rfl (run_move rfl rfl) ?_)
        refine wl_op (k := 1) (k' := 2) rfl rfl rfl (wo_run rfl rfl (run_len rfl rfl rfl rfl rfl rfl Try.underlying22) ?_)
        refine wl_op (k := 2) (k' := 3) rfl rfl rfl (wo_run rfl rfl (run_move rfl rfl) ?_)
        refine wl_end rfl ?_
        refine nm_sub [(7, _), (36, _), (37, _), (38, _)] ⟨rfl, rfl, rfl, rfl, trivial⟩ ?_
        refine nm_thn ?_
        refine ws_blockN Act_n36 2 rfl rfl rfl ?_
        refine ws_loopE (fun mx_ ax_ wx_ => ∃ (k2 : Nat) (b2 : Nat) (tv2 : List SlV) (tb2 : List (List Int)) (vrp : Value) (M3 : Hp), M1.le M3 ∧ mx_ = l.length - k2 ∧ Env 102 [(7, vrp), (36, .slice lA l.length lc), (37, .int .i64 (l.length : Int)), (38, .int .i64 (k2 : Int))] ax_ ∧ SH wx_ M3 X [Rs.row (cdV 22) vrp tv2] ∧ k2 ≤ l.length ∧ tb2 = actP m (l.take k2) ∧ okA m b2 tb2 ∧ b2 = 3 ^ k2 ∧ Rd2 cdInt M3 tv2 tb2) rfl ?_ ?_
        · intro ax_ hax_
          refine ⟨_, ⟨0, 1, _, tb, _, _, Hp.le_refl _, rfl, hax_.sub ⟨rfl, rfl, rfl, rfl, trivial⟩, S4.pick [0] [_] (by decide) ⟨rfl, trivial⟩, ?hq3f0, ?hq3f1, ?hq3f2, ?hq3f3, ?hq3f4⟩⟩
          case hq3f0 => omega
          case hq3f1 => exact tb_unit htb (fun j hj => hg j (by omega))
          case hq3f2 => (rw [tb_unit htb (fun j hj => hg j (by omega))]; exact okA.unit m (by omega))
          case hq3f3 => rfl
          case hq3f4 => exact hdt
        · rintro m2 a2 w8 ⟨k2, b2, tv2, tb2, vrp, M3, hle3, rfl, he2, S9, hk2, hact, hok, hb2, hdt2⟩
          clear S4
          refine ws_in he2 (c := Act_n37) rfl ?_
          clear he2 a2
          replace hl := hl.mono (Hp.un_mono hle3 S9.mx)
          replace hd2 := hd2.mono hle3
          replace hdt := hdt.mono hle3
          have htl2 := hdt2.1
          have hl2 := hok.1
          have hwk := fun h => hwb k2 h
          have hp3 : b2 ≤ 3486784401 := by rw [hb2]; exact Nat.le_trans (Nat.pow_le_pow_right (by omega) (show k2 ≤ 20 by omega)) (by decide)
          refine ws_seqN Act_n38 Act_n39 rfl rfl rfl ?_
          refine ws_region rfl ?_
          refine wl_op (k := 0) (k' := 1) rfl rfl rfl (wo_run rfl rfl (run_lss rfl rfl rfl) ?_)
          refine wl_end rfl ?_
          refine nm_thn ?_
          refine ws_seqN Act_n40 Act_n41 rfl rfl rfl ?_
          refine ws_condN Act_n42 Act_n43 rfl rfl rfl rfl (fun hb39 => ?_) (fun hb39 => ?_)
          · have hb39 := of_decide_eq_true hb39
            refine ws_skip rfl ?_
            refine nm_sub [(7, _), (36, _), (37, _), (38, _)] ⟨rfl, rfl, rfl, rfl, trivial⟩ ?_
            refine nm_thn ?_
            refine ws_seqN Act_n44 Act_n45 rfl rfl rfl ?_
            refine ws_blockN Act_n46 3 rfl rfl rfl ?_
            refine ws_seqN Act_n47 Act_n48 rfl rfl rfl ?_
            refine ws_region rfl ?_
            refine wl_op (k := 0) (k' := 1) rfl rfl rfl (wo_run rfl rfl (run_indexM (C := cdInt) k2 rfl rfl rfl sl22 (by first | rfl | omega) hl (by first | omega | (simp only [List.length_set, List.length_append, List.length_replicate, List.length_singleton, List.length_cons, List.length_nil]; omega))) ?_)
            refine wl_op (k := 1) (k' := 2) rfl rfl rfl (wo_run rfl rfl (run_load1 rfl rfl Try.underlying3 rfl (hl.cell S9.um (i := k2) (by first | omega | (simp only [List.length_set, List.length_append, List.length_replicate, List.length_singleton, List.length_cons, List.length_nil]; omega)) 0 rfl rfl)) ?_)
            refine wl_op (k := 2) (k' := 3) rfl rfl rfl (wo_run rfl rfl (run_assign rfl rfl) ?_)
            refine wl_end rfl ?_
            refine nm_sub [(7, _), (36, _), (37, _), (38, _), (10, _)] ⟨rfl, rfl, rfl, rfl, rfl, trivial⟩ ?_
            refine nm_thn ?_
            refine ws_seqN Act_n49 Act_n50 rfl rfl rfl ?_
            refine ws_region rfl ?_
            refine wl_op (k := 0) (k' := 1) rfl rfl rfl (wo_run rfl rfl (run_move rfl rfl) ?_)
            refine wl_op (k := 1) (k' := 2) rfl rfl rfl (wo_run rfl rfl (run_move rfl rfl) ?_)
            refine wl_op (k := 2) (k' := 3) rfl rfl rfl (wo_run rfl rfl (run_neg rfl rfl (by first | omega | (simp only [List.length_set, List.length_append, List.length_replicate, List.length_singleton, List.length_cons, List.length_nil]; omega))) ?_)
            refine wl_op (k := 3) (k' := 4) rfl rfl rfl (wo_run rfl rfl (run_max rfl rfl rfl rfl rfl) ?_)
            refine wl_op (k := 4) (k' := 5) rfl rfl rfl (wo_run rfl rfl (run_sub rfl rfl rfl (by first | omega | (simp only [List.length_set, List.length_append, List.length_replicate, List.length_singleton, List.length_cons, List.length_nil]; omega))) ?_)
            refine wl_op (k := 5) (k' := 6) rfl rfl rfl (wo_run rfl rfl (run_assign rfl rfl) ?_)
            refine wl_end rfl ?_
            refine nm_sub [(7, _), (36, _), (37, _), (38, _), (10, _), (11, _)] ⟨rfl, rfl, rfl, rfl, rfl, rfl, trivial⟩ ?_
            refine nm_thn ?_
            refine ws_seqN Act_n51 Act_n52 rfl rfl rfl ?_
            refine ws_eq 11 (.int .i64 ((max (ga l k2) (-(ga l k2)) - 1).toNat : Int)) rfl (int_eq (by omega)) ?_
            have hia := hok.2 (max (ga l k2) (-(ga l k2)) - 1).toNat (by omega)
            have hib := hok.2 ((max (ga l k2) (-(ga l k2)) - 1).toNat + 1) (by omega)
            refine ws_draw rfl (by kernel_rfl) S9 11 rfl ?_
            clear S9
            refine wa_takeP (i := 0) (d := 47) 10 rfl (by kernel_rfl) (by kernel_rfl) (by kernel_rfl) rfl rfl rfl (fun w9 => run_move rfl rfl) ?_
            refine wa_takeP (i := 1) (d := 48) 9 rfl (by kernel_rfl) (by kernel_rfl) (by kernel_rfl) rfl rfl rfl (fun w10 => run_move rfl rfl) ?_
            refine wa_take (i := 2) (d := 49) 8 rfl (by kernel_rfl) (by kernel_rfl) (by kernel_rfl) rfl rfl rfl (fun M6 N3 w11 hle6 S12 => .inl (run_indexR (C := (cdV 22)) (i := 0) ((max (ga l k2) (-(ga l k2)) - 1).toNat) rfl rfl rfl sl27 S12.suf rfl (by first | rfl | omega) (by first | omega | (simp only [List.length_set, List.length_append, List.length_replicate, List.length_singleton, List.length_cons, List.length_nil]; omega)))) ?_
            obtain ⟨hn1, hr3⟩ := hdt2.2 ((max (ga l k2) (-(ga l k2)) - 1).toNat) (by first | omega | (simp only [List.length_set, List.length_append, List.length_replicate, List.length_singleton, List.length_cons, List.length_nil]; omega))
            refine wa_take (i := 3) (d := 50) 7 rfl (by kernel_rfl) (by kernel_rfl) (by kernel_rfl) rfl rfl rfl (fun M7 N4 w12 hle7 S13 => .inl (run_load1 rfl rfl Try.underlying22 rfl (S13.suf.rowc (i := 0) (e := (max (ga l k2) (-(ga l k2)) - 1).toNat) (j := 0) rfl (by first | omega | (simp only [List.length_set, List.length_append, List.length_replicate, List.length_singleton, List.length_cons, List.length_nil]; omega)) rfl (congrArg (fun n => some (Value.slice _ n _)) hn1)))) ?_
            refine wa_takeP (i := 4) (d := 51) 6 rfl (by kernel_rfl) (by kernel_rfl) (by kernel_rfl) rfl rfl rfl (fun w13 => run_move rfl rfl) ?_
            refine wa_takeP (i := 5) (d := 52) 5 rfl (by kernel_rfl) (by kernel_rfl) (by kernel_rfl) rfl rfl rfl (fun w14 => run_move rfl rfl) ?_
            refine wa_takeP (i := 6) (d := 53) 4 rfl (by kernel_rfl) (by kernel_rfl) (by kernel_rfl) rfl rfl rfl (fun w15 => run_add rfl rfl rfl (by first | omega | (simp only [List.length_set, List.length_append, List.length_replicate, List.length_singleton, List.length_cons, List.length_nil]; omega))) ?_
            refine wa_take (i := 7) (d := 54) 3 rfl (by kernel_rfl) (by kernel_rfl) (by kernel_rfl) rfl rfl rfl (fun M11 N8 w16 hle11 S17 => .inl (run_indexR (C := (cdV 22)) (i := 0) ((max (ga l k2) (-(ga l k2)) - 1).toNat + 1) rfl rfl rfl sl27 S17.suf rfl (by first | rfl | omega) (by first | omega | (simp only [List.length_set, List.length_append, List.length_replicate, List.length_singleton, List.length_cons, List.length_nil]; omega)))) ?_
            obtain ⟨hn2, hr4⟩ := hdt2.2 ((max (ga l k2) (-(ga l k2)) - 1).toNat + 1) (by first | omega | (simp only [List.length_set, List.length_append, List.length_replicate, List.length_singleton, List.length_cons, List.length_nil]; omega))
            refine wa_take (i := 8) (d := 55) 2 rfl (by kernel_rfl) (by kernel_rfl) (by kernel_rfl) rfl rfl rfl (fun M12 N9 w17 hle12 S18 => .inl (run_load1 rfl rfl Try.underlying22 rfl (S18.suf.rowc (i := 0) (e := (max (ga l k2) (-(ga l k2)) - 1).toNat + 1) (j := 0) rfl (by first | omega | (simp only [List.length_set, List.length_append, List.length_replicate, List.length_singleton, List.length_cons, List.length_nil]; omega)) rfl (congrArg (fun n => some (Value.slice _ n _)) hn2)))) ?_
            refine wa_takeP (i := 9) (d := 12) 1 rfl (by kernel_rfl) (by kernel_rfl) (by kernel_rfl) rfl rfl rfl (fun w18 => run_assign rfl rfl) ?_
            refine wa_takeP (i := 10) (d := 13) 0 rfl (by kernel_rfl) (by kernel_rfl) (by kernel_rfl) rfl rfl rfl (fun w19 => run_assign rfl rfl) ?_
            refine wa_end (by kernel_rfl) (fun w20 S21 => ?_)
            refine nm_sub [(7, _), (36, _), (37, _), (38, _), (10, _), (11, _), (12, _), (13, _)] ⟨rfl, rfl, rfl, rfl, rfl, rfl, rfl, rfl, trivial⟩ ?_
            refine nm_thn ?_
            refine ws_seqN Act_n53 Act_n54 rfl rfl rfl ?_
            refine ws_region rfl ?_
            refine wl_op (k := 0) (k' := 1) rfl rfl rfl (wo_run rfl rfl (run_move rfl rfl) ?_)
            refine wl_op (k := 1) (k' := 2) rfl rfl rfl (wo_run rfl rfl (run_gtr rfl rfl rfl) ?_)
            refine wl_end rfl ?_
            refine nm_sub [(7, _), (36, _), (37, _), (38, _), (11, _), (12, _), (13, _), (57, _)] ⟨rfl, rfl, rfl, rfl, rfl, rfl, rfl, rfl, trivial⟩ ?_
            refine nm_thn ?_
            refine ws_condN Act_n55 Act_n56 rfl rfl rfl rfl (fun hb57 => ?_) (fun hb57 => ?_)
            · have hb57 := of_decide_eq_true hb57
              refine ws_region rfl ?_
              refine wl_op (k := 0) (k' := 1) rfl rfl rfl (wo_run rfl rfl (run_move rfl rfl) ?_)
              refine wl_op (k := 1) (k' := 2) rfl rfl rfl (wo_run rfl rfl (run_move rfl rfl) ?_)
              refine wl_op (k := 2) (k' := 3) rfl rfl rfl (wo_run rfl rfl (run_move rfl rfl) ?_)
              refine wl_op (k := 3) (k' := 4) rfl rfl rfl (wo_run rfl rfl (run_move rfl rfl) ?_)
              refine wl_op (k := 4) (k' := 5) rfl rfl rfl (wo_run rfl rfl (run_add rfl rfl rfl (by first | omega | (simp only [List.length_set, List.length_append, List.length_replicate, List.length_singleton, List.length_cons, List.length_nil]; omega))) ?_)
              refine wl_op (k := 5) (k' := 6) rfl rfl rfl (wo_run rfl rfl (run_move rfl rfl) ?_)
              refine wl_op (k := 6) (k' := 7) rfl rfl rfl (wo_run rfl rfl (run_move rfl rfl) ?_)
              refine wl_op (k := 7) (k' := 8) rfl rfl rfl (wo_run rfl rfl (run_move rfl rfl) ?_)
              refine wl_op (k := 8) (k' := 9) rfl rfl rfl (wo_ct rfl rfl rfl rfl rfl rfl rfl cf27 S21 (reciprocal_t (ga tb2 ((max (ga l k2) (-(ga l k2)) - 1).toNat)) (hr3.mono (Hp.le_un _ _)) ((hok.2 _ (by omega)).1) S21.lend) ?_)
              intro vw21 w21 M15 hle15 S22 hRw21; clear S21
              replace hl := hl.mono (Hp.un_mono hle15 S22.mx)
              replace hd2 := hd2.mono hle15
              replace hdt := hdt.mono hle15
              replace hdt2 := hdt2.mono hle15
              replace hr3 := hr3.mono hle15
              replace hr4 := hr4.mono hle15
              obtain ⟨A1, c1, rfl, hr5⟩ := hRw21
              refine wl_op (k := 9) (k' := 10) rfl rfl rfl (wo_buildSliceN (C := (cdV 22)) (l := [_, _, _]) (pl := [(0, 1), (1, 1), (2, 1)]) rfl rfl rfl rfl sl27 rfl rfl rfl rfl rfl S22 ?_)
              intro gb3 w23 S24; clear S22
              have hr6 := S24.lendBoxN (C := (cdV 22)) (zs := [(⟨(ga tv2 ((max (ga l k2) (-(ga l k2)) - 1).toNat)).A, (ga tb2 ((max (ga l k2) (-(ga l k2)) - 1).toNat)).length, (ga tv2 ((max (ga l k2) (-(ga l k2)) - 1).toNat)).c⟩ : SlV), (⟨(ga tv2 ((max (ga l k2) (-(ga l k2)) - 1).toNat + 1)).A, (ga tb2 ((max (ga l k2) (-(ga l k2)) - 1).toNat + 1)).length, (ga tv2 ((max (ga l k2) (-(ga l k2)) - 1).toNat + 1)).c⟩ : SlV), (⟨A1, (invW (ga tb2 ((max (ga l k2) (-(ga l k2)) - 1).toNat))).length, c1⟩ : SlV)]) (i := 0) rfl rfl (by show 3 * _ ≤ _; decide)
              have hd4 := Rd2.at_ (C := cdInt) (ss := [(⟨(ga tv2 ((max (ga l k2) (-(ga l k2)) - 1).toNat)).A, (ga tb2 ((max (ga l k2) (-(ga l k2)) - 1).toNat)).length, (ga tv2 ((max (ga l k2) (-(ga l k2)) - 1).toNat)).c⟩ : SlV), (⟨(ga tv2 ((max (ga l k2) (-(ga l k2)) - 1).toNat + 1)).A, (ga tb2 ((max (ga l k2) (-(ga l k2)) - 1).toNat + 1)).length, (ga tv2 ((max (ga l k2) (-(ga l k2)) - 1).toNat + 1)).c⟩ : SlV), (⟨A1, (invW (ga tb2 ((max (ga l k2) (-(ga l k2)) - 1).toNat))).length, c1⟩ : SlV)]) (xss := [ga tb2 ((max (ga l k2) (-(ga l k2)) - 1).toNat), ga tb2 ((max (ga l k2) (-(ga l k2)) - 1).toNat + 1), invW (ga tb2 ((max (ga l k2) (-(ga l k2)) - 1).toNat))]) S24 (((Rd2.nil_.snoc (hr3.mono (Hp.le_un _ _))).snoc (hr4.mono (Hp.le_un _ _))).snoc (hr5.mono (Hp.le_un _ _)))
              have hcall2 := product_t ([ga tb2 ((max (ga l k2) (-(ga l k2)) - 1).toNat), ga tb2 ((max (ga l k2) (-(ga l k2)) - 1).toNat + 1), invW (ga tb2 ((max (ga l k2) (-(ga l k2)) - 1).toNat))]) hr6 hd4 (sm3 (by first | exact (hok.2 _ (by omega)).1 | exact (hok.2 _ (by omega)).1.inv_) (by first | exact (hok.2 _ (by omega)).1 | exact (hok.2 _ (by omega)).1.inv_) (by first | exact (hok.2 _ (by omega)).1 | exact (hok.2 _ (by omega)).1.inv_)) (tot3 (by (try simp only [invW_len]); omega)) S24.lend
              refine wl_op (k := 10) (k' := 11) rfl rfl rfl (wo_ct rfl rfl rfl rfl rfl rfl rfl cf26 S24 (hcall2) ?_)
              intro vw24 w24 M16 hle16 S25 hRw24; clear S24
              replace hl := hl.mono (Hp.un_mono hle16 S25.mx)
              replace hd2 := hd2.mono hle16
              replace hdt := hdt.mono hle16
              replace hdt2 := hdt2.mono hle16
              replace hr3 := hr3.mono hle16
              replace hr4 := hr4.mono hle16
              replace hr5 := hr5.mono hle16
              obtain ⟨A2, c2, rfl, hr7⟩ := hRw24
              refine wl_op (k := 11) (k' := 12) rfl rfl rfl (wo_run rfl rfl (run_move rfl rfl) ?_)
              refine wl_op (k := 12) (k' := 13) rfl rfl rfl (wo_run rfl rfl (run_indexR (C := (cdV 22)) (i := 1) ((max (ga l k2) (-(ga l k2)) - 1).toNat) rfl rfl rfl sl27 S25 rfl (by first | rfl | omega) (by first | omega | (simp only [List.length_set, List.length_append, List.length_replicate, List.length_singleton, List.length_cons, List.length_nil]; omega))) ?_)
              refine wl_op (k := 13) (k' := 14) rfl rfl rfl (wo_storeR (C := (cdV 22)) (i := 1) (e := (max (ga l k2) (-(ga l k2)) - 1).toNat) (j := 0) (us := [_]) (H' := [_, _]) (⟨A2, (prodW ([ga tb2 ((max (ga l k2) (-(ga l k2)) - 1).toNat), ga tb2 ((max (ga l k2) (-(ga l k2)) - 1).toNat + 1), invW (ga tb2 ((max (ga l k2) (-(ga l k2)) - 1).toNat))])).length, c2⟩ : SlV) rfl rfl S25 rfl (by first | omega | (simp only [List.length_set, List.length_append, List.length_replicate, List.length_singleton, List.length_cons, List.length_nil]; omega)) rfl rfl rfl sz22 rfl rfl rfl rfl ?_)
              intro w25 S26; clear S25
              have hd5 := hdt2.set_ hr7 ((max (ga l k2) (-(ga l k2)) - 1).toNat) (by first | omega | (simp only [List.length_set, List.length_append, List.length_replicate, List.length_singleton, List.length_cons, List.length_nil]; omega))
              refine wl_op (k := 14) (k' := 15) rfl rfl rfl (wo_run rfl rfl (run_indexR (C := (cdV 22)) (i := 1) ((max (ga l k2) (-(ga l k2)) - 1).toNat + 1) rfl rfl rfl sl27 S26 rfl (by first | rfl | omega) (by first | omega | (simp only [List.length_set, List.length_append, List.length_replicate, List.length_singleton, List.length_cons, List.length_nil]; omega))) ?_)
              refine wl_op (k := 15) (k' := 16) rfl rfl rfl (wo_storeR (C := (cdV 22)) (i := 1) (e := (max (ga l k2) (-(ga l k2)) - 1).toNat + 1) (j := 0) (us := [_]) (H' := [_, _]) (⟨(ga tv2 ((max (ga l k2) (-(ga l k2)) - 1).toNat)).A, (ga tb2 ((max (ga l k2) (-(ga l k2)) - 1).toNat)).length, (ga tv2 ((max (ga l k2) (-(ga l k2)) - 1).toNat)).c⟩ : SlV) rfl rfl S26 rfl (by first | omega | (simp only [List.length_set, List.length_append, List.length_replicate, List.length_singleton, List.length_cons, List.length_nil]; omega)) rfl rfl rfl sz22 rfl rfl rfl rfl ?_)
              intro w26 S27; clear S26
              have hd6 := hd5.set_ hr3 ((max (ga l k2) (-(ga l k2)) - 1).toNat + 1) (by first | omega | (simp only [List.length_set, List.length_append, List.length_replicate, List.length_singleton, List.length_cons, List.length_nil]; omega))
              refine wl_end rfl ?_
              refine nm_blk ?_
              refine nm_sub [(7, _), (36, _), (37, _), (38, _)] ⟨rfl, rfl, rfl, rfl, trivial⟩ ?_
              refine nm_thn ?_
              refine ws_region rfl ?_
              refine wl_op (k := 0) (k' := 1) rfl rfl rfl (wo_run rfl rfl (run_add rfl rfl rfl (by first | omega | (simp only [List.length_set, List.length_append, List.length_replicate, List.length_singleton, List.length_cons, List.length_nil]; omega))) ?_)
              refine wl_op (k := 1) (k' := 2) rfl rfl rfl (wo_run rfl rfl (run_move rfl rfl) ?_)
              refine wl_end rfl ?_
              refine nm_lp ?_
              intro ax_ hax_
              refine ⟨_, ?hq4m, ⟨k2 + 1, b2 * 3, _, ((tb2.set ((max (ga l k2) (-(ga l k2)) - 1).toNat) (prodW ([ga tb2 ((max (ga l k2) (-(ga l k2)) - 1).toNat), ga tb2 ((max (ga l k2) (-(ga l k2)) - 1).toNat + 1), invW (ga tb2 ((max (ga l k2) (-(ga l k2)) - 1).toNat))]))).set ((max (ga l k2) (-(ga l k2)) - 1).toNat + 1) (ga tb2 ((max (ga l k2) (-(ga l k2)) - 1).toNat))), _, _, ((hle3.trans hle15).trans hle16), rfl, hax_.sub ⟨rfl, rfl, rfl, rfl, trivial⟩, S27.pick [1] [_] (by decide) ⟨rfl, trivial⟩, ?hq4f0, ?hq4f1, ?hq4f2, ?hq4f3, ?hq4f4⟩⟩
              case hq4f0 => omega
              case hq4f1 => (rw [actP_take _ _ _ (by omega), ← hact]; unfold stepA; dsimp only; first | rw [if_pos (by omega)] | rw [if_neg (by omega)])
              case hq4f2 => (have h9 := hok.step (hwb k2 (by omega)); unfold stepA at h9; dsimp only at h9; first | (rw [if_pos (by omega)] at h9; exact h9) | (rw [if_neg (by omega)] at h9; exact h9))
              case hq4f3 => (rw [hb2, Nat.pow_succ])
              case hq4f4 => exact hd6
              case hq4m => omega
            · have hb57 := of_decide_eq_false hb57
              refine ws_region rfl ?_
              refine wl_op (k := 0) (k' := 1) rfl rfl rfl (wo_run rfl rfl (run_move rfl rfl) ?_)
              refine wl_op (k := 1) (k' := 2) rfl rfl rfl (wo_run rfl rfl (run_move rfl rfl) ?_)
              refine wl_op (k := 2) (k' := 3) rfl rfl rfl (wo_run rfl rfl (run_move rfl rfl) ?_)
              refine wl_op (k := 3) (k' := 4) rfl rfl rfl (wo_run rfl rfl (run_move rfl rfl) ?_)
              refine wl_op (k := 4) (k' := 5) rfl rfl rfl (wo_run rfl rfl (run_add rfl rfl rfl (by first | omega | (simp only [List.length_set, List.length_append, List.length_replicate, List.length_singleton, List.length_cons, List.length_nil]; omega))) ?_)
              refine wl_op (k := 5) (k' := 6) rfl rfl rfl (wo_run rfl rfl (run_move rfl rfl) ?_)
              refine wl_op (k := 6) (k' := 7) rfl rfl rfl (wo_run rfl rfl (run_move rfl rfl) ?_)
              refine wl_op (k := 7) (k' := 8) rfl rfl rfl (wo_ct rfl rfl rfl rfl rfl rfl rfl cf27 S21 (reciprocal_t (ga tb2 ((max (ga l k2) (-(ga l k2)) - 1).toNat + 1)) (hr4.mono (Hp.le_un _ _)) ((hok.2 _ (by omega)).1) S21.lend) ?_)
              intro vw27 w27 M17 hle17 S28 hRw27; clear S21
              replace hl := hl.mono (Hp.un_mono hle17 S28.mx)
              replace hd2 := hd2.mono hle17
              replace hdt := hdt.mono hle17
              replace hdt2 := hdt2.mono hle17
              replace hr3 := hr3.mono hle17
              replace hr4 := hr4.mono hle17
              obtain ⟨A3, c3, rfl, hr8⟩ := hRw27
              refine wl_op (k := 8) (k' := 9) rfl rfl rfl (wo_run rfl rfl (run_move rfl rfl) ?_)
              refine wl_op (k := 9) (k' := 10) rfl rfl rfl (wo_run rfl rfl (run_move rfl rfl) ?_)
              refine wl_op (k := 10) (k' := 11) rfl rfl rfl (wo_buildSliceN (C := (cdV 22)) (l := [_, _, _]) (pl := [(0, 1), (1, 1), (2, 1)]) rfl rfl rfl rfl sl27 rfl rfl rfl rfl rfl S28 ?_)
              intro gb4 w29 S30; clear S28
              have hr9 := S30.lendBoxN (C := (cdV 22)) (zs := [(⟨A3, (invW (ga tb2 ((max (ga l k2) (-(ga l k2)) - 1).toNat + 1))).length, c3⟩ : SlV), (⟨(ga tv2 ((max (ga l k2) (-(ga l k2)) - 1).toNat)).A, (ga tb2 ((max (ga l k2) (-(ga l k2)) - 1).toNat)).length, (ga tv2 ((max (ga l k2) (-(ga l k2)) - 1).toNat)).c⟩ : SlV), (⟨(ga tv2 ((max (ga l k2) (-(ga l k2)) - 1).toNat + 1)).A, (ga tb2 ((max (ga l k2) (-(ga l k2)) - 1).toNat + 1)).length, (ga tv2 ((max (ga l k2) (-(ga l k2)) - 1).toNat + 1)).c⟩ : SlV)]) (i := 0) rfl rfl (by show 3 * _ ≤ _; decide)
              have hd7 := Rd2.at_ (C := cdInt) (ss := [(⟨A3, (invW (ga tb2 ((max (ga l k2) (-(ga l k2)) - 1).toNat + 1))).length, c3⟩ : SlV), (⟨(ga tv2 ((max (ga l k2) (-(ga l k2)) - 1).toNat)).A, (ga tb2 ((max (ga l k2) (-(ga l k2)) - 1).toNat)).length, (ga tv2 ((max (ga l k2) (-(ga l k2)) - 1).toNat)).c⟩ : SlV), (⟨(ga tv2 ((max (ga l k2) (-(ga l k2)) - 1).toNat + 1)).A, (ga tb2 ((max (ga l k2) (-(ga l k2)) - 1).toNat + 1)).length, (ga tv2 ((max (ga l k2) (-(ga l k2)) - 1).toNat + 1)).c⟩ : SlV)]) (xss := [invW (ga tb2 ((max (ga l k2) (-(ga l k2)) - 1).toNat + 1)), ga tb2 ((max (ga l k2) (-(ga l k2)) - 1).toNat), ga tb2 ((max (ga l k2) (-(ga l k2)) - 1).toNat + 1)]) S30 (((Rd2.nil_.snoc (hr8.mono (Hp.le_un _ _))).snoc (hr3.mono (Hp.le_un _ _))).snoc (hr4.mono (Hp.le_un _ _)))
              have hcall3 := product_t ([invW (ga tb2 ((max (ga l k2) (-(ga l k2)) - 1).toNat + 1)), ga tb2 ((max (ga l k2) (-(ga l k2)) - 1).toNat), ga tb2 ((max (ga l k2) (-(ga l k2)) - 1).toNat + 1)]) hr9 hd7 (sm3 (by first | exact (hok.2 _ (by omega)).1 | exact (hok.2 _ (by omega)).1.inv_) (by first | exact (hok.2 _ (by omega)).1 | exact (hok.2 _ (by omega)).1.inv_) (by first | exact (hok.2 _ (by omega)).1 | exact (hok.2 _ (by omega)).1.inv_)) (tot3 (by (try simp only [invW_len]); omega)) S30.lend
              refine wl_op (k := 11) (k' := 12) rfl rfl rfl (wo_ct rfl rfl rfl rfl rfl rfl rfl cf26 S30 (hcall3) ?_)
              intro vw30 w30 M18 hle18 S31 hRw30; clear S30
              replace hl := hl.mono (Hp.un_mono hle18 S31.mx)
              replace hd2 := hd2.mono hle18
              replace hdt := hdt.mono hle18
              replace hdt2 := hdt2.mono hle18
              replace hr3 := hr3.mono hle18
              replace hr4 := hr4.mono hle18
              replace hr8 := hr8.mono hle18
              obtain ⟨A4, c4, rfl, hr10⟩ := hRw30
              refine wl_op (k := 12) (k' := 13) rfl rfl rfl (wo_run rfl rfl (run_indexR (C := (cdV 22)) (i := 1) ((max (ga l k2) (-(ga l k2)) - 1).toNat) rfl rfl rfl sl27 S31 rfl (by first | rfl | omega) (by first | omega | (simp only [List.length_set, List.length_append, List.length_replicate, List.length_singleton, List.length_cons, List.length_nil]; omega))) ?_)
              refine wl_op (k := 13) (k' := 14) rfl rfl rfl (wo_storeR (C := (cdV 22)) (i := 1) (e := (max (ga l k2) (-(ga l k2)) - 1).toNat) (j := 0) (us := [_]) (H' := [_, _]) (⟨(ga tv2 ((max (ga l k2) (-(ga l k2)) - 1).toNat + 1)).A, (ga tb2 ((max (ga l k2) (-(ga l k2)) - 1).toNat + 1)).length, (ga tv2 ((max (ga l k2) (-(ga l k2)) - 1).toNat + 1)).c⟩ : SlV) rfl rfl S31 rfl (by first | omega | (simp only [List.length_set, List.length_append, List.length_replicate, List.length_singleton, List.length_cons, List.length_nil]; omega)) rfl rfl rfl sz22 rfl rfl rfl rfl ?_)
              intro w31 S32; clear S31
              have hd8 := hdt2.set_ hr4 ((max (ga l k2) (-(ga l k2)) - 1).toNat) (by first | omega | (simp only [List.length_set, List.length_append, List.length_replicate, List.length_singleton, List.length_cons, List.length_nil]; omega))
              refine wl_op (k := 14) (k' := 15) rfl rfl rfl (wo_run rfl rfl (run_indexR (C := (cdV 22)) (i := 1) ((max (ga l k2) (-(ga l k2)) - 1).toNat + 1) rfl rfl rfl sl27 S32 rfl (by first | rfl | omega) (by first | omega | (simp only [List.length_set, List.length_append, List.length_replicate, List.length_singleton, List.length_cons, List.length_nil]; omega))) ?_)
              refine wl_op (k := 15) (k' := 16) rfl rfl rfl (wo_storeR (C := (cdV 22)) (i := 1) (e := (max (ga l k2) (-(ga l k2)) - 1).toNat + 1) (j := 0) (us := [_]) (H' := [_, _]) (⟨A4, (prodW ([invW (ga tb2 ((max (ga l k2) (-(ga l k2)) - 1).toNat + 1)), ga tb2 ((max (ga l k2) (-(ga l k2)) - 1).toNat), ga tb2 ((max (ga l k2) (-(ga l k2)) - 1).toNat + 1)])).length, c4⟩ : SlV) rfl rfl S32 rfl (by first | omega | (simp only [List.length_set, List.length_append, List.length_replicate, List.length_singleton, List.length_cons, List.length_nil]; omega)) rfl rfl rfl sz22 rfl rfl rfl rfl ?_)
              intro w32 S33; clear S32
              have hd9 := hd8.set_ hr10 ((max (ga l k2) (-(ga l k2)) - 1).toNat + 1) (by first | omega | (simp only [List.length_set, List.length_append, List.length_replicate, List.length_singleton, List.length_cons, List.length_nil]; omega))
              refine wl_end rfl ?_
              refine nm_blk ?_
              refine nm_sub [(7, _), (36, _), (37, _), (38, _)] ⟨rfl, rfl, rfl, rfl, trivial⟩ ?_
              refine nm_thn ?_
              refine ws_region rfl ?_
              refine wl_op (k := 0) (k' := 1) rfl rfl rfl (wo_run rfl rfl (run_add rfl rfl rfl (by first | omega | (simp only [List.length_set, List.length_append, List.length_replicate, List.length_singleton, List.length_cons, List.length_nil]; omega))) ?_)
              refine wl_op (k := 1) (k' := 2) rfl rfl rfl (wo_run rfl rfl (run_move rfl rfl) ?_)
              refine wl_end rfl ?_
              refine nm_lp ?_
              intro ax_ hax_
              refine ⟨_, ?hq5m, ⟨k2 + 1, b2 * 3, _, ((tb2.set ((max (ga l k2) (-(ga l k2)) - 1).toNat) (ga tb2 ((max (ga l k2) (-(ga l k2)) - 1).toNat + 1))).set ((max (ga l k2) (-(ga l k2)) - 1).toNat + 1) (prodW ([invW (ga tb2 ((max (ga l k2) (-(ga l k2)) - 1).toNat + 1)), ga tb2 ((max (ga l k2) (-(ga l k2)) - 1).toNat), ga tb2 ((max (ga l k2) (-(ga l k2)) - 1).toNat + 1)]))), _, _, ((hle3.trans hle17).trans hle18), rfl, hax_.sub ⟨rfl, rfl, rfl, rfl, trivial⟩, S33.pick [1] [_] (by decide) ⟨rfl, trivial⟩, ?hq5f0, ?hq5f1, ?hq5f2, ?hq5f3, ?hq5f4⟩⟩
              case hq5f0 => omega
              case hq5f1 => (rw [actP_take _ _ _ (by omega), ← hact]; unfold stepA; dsimp only; first | rw [if_pos (by omega)] | rw [if_neg (by omega)])
              case hq5f2 => (have h9 := hok.step (hwb k2 (by omega)); unfold stepA at h9; dsimp only at h9; first | (rw [if_pos (by omega)] at h9; exact h9) | (rw [if_neg (by omega)] at h9; exact h9))
              case hq5f3 => (rw [hb2, Nat.pow_succ])
              case hq5f4 => exact hd9
              case hq5m => omega
          · have hb39 := of_decide_eq_false hb39
            refine ws_exit rfl rfl ?_
            refine nm_sub [(7, _)] ⟨rfl, trivial⟩ ?_
            refine nm_thn ?_
            refine ws_seqN Act_n57 Act_n58 rfl rfl rfl ?_
            refine ws_seqN Act_n59 Act_n60 rfl rfl rfl ?_
            refine ws_region rfl ?_
            refine wl_op (k := 0) (k' := 1) rfl rfl rfl (wo_run rfl rfl (run_move rfl rfl) ?_)
            refine wl_op (k := 1) (k' := 2) rfl rfl rfl (wo_run rfl rfl (run_lenR (C := (cdV 22)) (i := 0) rfl rfl rfl rfl rfl rfl sl27 S9 rfl) ?_)
            refine wl_op (k := 2) (k' := 3) rfl rfl rfl (wo_run rfl rfl (run_move rfl rfl) ?_)
            refine wl_end rfl ?_
            refine nm_sub [(7, _), (88, _), (89, _)] ⟨rfl, rfl, rfl, trivial⟩ ?_
            refine nm_thn ?_
            refine ws_blockN Act_n61 4 rfl rfl rfl ?_
            refine ws_loopE (fun mx_ ax_ wx_ => ∃ (k3 : Nat) (tv3 : List SlV) (tb3 : List (List Int)) (vrq : Value) (M19 : Hp), M3.le M19 ∧ mx_ = m - k3 ∧ Env 102 [(7, vrq), (88, .int .i64 (tv2.length : Int)), (89, .int .i64 (k3 : Int))] ax_ ∧ SH wx_ M19 X [Rs.row (cdV 22) vrq tv3] ∧ k3 ≤ m ∧ tb3 = actP m l ∧ tb3.length = m ∧ Rd2 cdInt M19 tv3 tb3) rfl ?_ ?_
            · intro ax_ hax_
              refine ⟨_, ⟨0, _, tb2, _, _, Hp.le_refl _, rfl, hax_.sub ⟨rfl, rfl, rfl, trivial⟩, S9.pick [0] [_] (by decide) ⟨rfl, trivial⟩, ?hq6f0, ?hq6f1, ?hq6f2, ?hq6f3⟩⟩
              case hq6f0 => omega
              case hq6f1 => (rw [hact, show k2 = l.length by omega, List.take_length])
              case hq6f2 => exact hok.1
              case hq6f3 => exact hdt2
            · rintro m3 a3 w33 ⟨k3, tv3, tb3, vrq, M19, hle19, rfl, he3, S34, hk3, hact3, htb3, hdt3⟩
              clear S9
              refine ws_in he3 (c := Act_n62) rfl ?_
              clear he3 a3
              replace hl := hl.mono (Hp.un_mono hle19 S34.mx)
              replace hd2 := hd2.mono hle19
              replace hdt := hdt.mono hle19
              replace hdt2 := hdt2.mono hle19
              have htl3 := hdt3.1
              refine ws_seqN Act_n63 Act_n64 rfl rfl rfl ?_
              refine ws_region rfl ?_
              refine wl_op (k := 0) (k' := 1) rfl rfl rfl (wo_run rfl rfl (run_lss rfl rfl rfl) ?_)
              refine wl_end rfl ?_
              refine nm_thn ?_
              refine ws_seqN Act_n65 Act_n66 rfl rfl rfl ?_
              refine ws_condN Act_n67 Act_n68 rfl rfl rfl rfl (fun hb90 => ?_) (fun hb90 => ?_)
              · have hb90 := of_decide_eq_true hb90
                refine ws_skip rfl ?_
                refine nm_sub [(7, _), (88, _), (89, _)] ⟨rfl, rfl, rfl, trivial⟩ ?_
                refine nm_thn ?_
                refine ws_seqN Act_n69 Act_n70 rfl rfl rfl ?_
                refine ws_blockN Act_n71 5 rfl rfl rfl ?_
                refine ws_seqN Act_n72 Act_n73 rfl rfl rfl ?_
                refine ws_region rfl ?_
                refine wl_op (k := 0) (k' := 1) rfl rfl rfl (wo_run rfl rfl (run_move rfl rfl) ?_)
                refine wl_op (k := 1) (k' := 2) rfl rfl rfl (wo_run rfl rfl (run_assign rfl rfl) ?_)
                refine wl_end rfl ?_
                refine nm_sub [(7, _), (88, _), (89, _), (14, _)] ⟨rfl, rfl, rfl, rfl, trivial⟩ ?_
                refine nm_thn ?_
                refine ws_region rfl ?_
                refine wl_op (k := 0) (k' := 1) rfl rfl rfl (wo_run rfl rfl (run_move rfl rfl) ?_)
                refine wl_op (k := 1) (k' := 2) rfl rfl rfl (wo_run rfl rfl (run_move rfl rfl) ?_)
                refine wl_op (k := 2) (k' := 3) rfl rfl rfl (wo_run rfl rfl (run_move rfl rfl) ?_)
                refine wl_op (k := 3) (k' := 4) rfl rfl rfl (wo_run rfl rfl (run_move rfl rfl) ?_)
                refine wl_op (k := 4) (k' := 5) rfl rfl rfl (wo_run rfl rfl (run_indexR (C := (cdV 22)) (i := 0) k3 rfl rfl rfl sl27 S34 rfl (by first | rfl | omega) (by first | omega | (simp only [List.length_set, List.length_append, List.length_replicate, List.length_singleton, List.length_cons, List.length_nil]; omega))) ?_)
                obtain ⟨hn3, hr11⟩ := hdt3.2 k3 (by first | omega | (simp only [List.length_set, List.length_append, List.length_replicate, List.length_singleton, List.length_cons, List.length_nil]; omega))
                refine wl_op (k := 5) (k' := 6) rfl rfl rfl (wo_run rfl rfl (run_load1 rfl rfl Try.underlying22 rfl (S34.rowc (i := 0) (e := k3) (j := 0) rfl (by first | omega | (simp only [List.length_set, List.length_append, List.length_replicate, List.length_singleton, List.length_cons, List.length_nil]; omega)) rfl (congrArg (fun n => some (Value.slice _ n _)) hn3))) ?_)
                refine wl_op (k := 6) (k' := 7) rfl rfl rfl (wo_ct rfl rfl rfl rfl rfl rfl rfl cf28 S34 (CloneI_t (ga tb3 k3) (hr11.mono (Hp.le_un _ _)) S34.lend) ?_)
                intro vw34 w34 M20 hle20 S35 hRw34; clear S34
                replace hl := hl.mono (Hp.un_mono hle20 S35.mx)
                replace hd2 := hd2.mono hle20
                replace hdt := hdt.mono hle20
                replace hdt2 := hdt2.mono hle20
                replace hdt3 := hdt3.mono hle20
                replace hr11 := hr11.mono hle20
                obtain ⟨A5, c5, rfl, hr12⟩ := hRw34
                refine wl_op (k := 7) (k' := 8) rfl rfl rfl (wo_run rfl rfl (run_indexR (C := (cdV 22)) (i := 0) k3 rfl rfl rfl sl27 S35 rfl (by first | rfl | omega) (by first | omega | (simp only [List.length_set, List.length_append, List.length_replicate, List.length_singleton, List.length_cons, List.length_nil]; omega))) ?_)
                refine wl_op (k := 8) (k' := 9) rfl rfl rfl (wo_storeR (C := (cdV 22)) (i := 0) (e := k3) (j := 0) (us := [_]) (H' := [_]) (⟨A5, (ga tb3 k3).length, c5⟩ : SlV) rfl rfl S35 rfl (by first | omega | (simp only [List.length_set, List.length_append, List.length_replicate, List.length_singleton, List.length_cons, List.length_nil]; omega)) rfl rfl rfl sz22 rfl rfl rfl rfl ?_)
                intro w35 S36; clear S35
                have hd10 := hdt3.set_ hr12 k3 (by first | omega | (simp only [List.length_set, List.length_append, List.length_replicate, List.length_singleton, List.length_cons, List.length_nil]; omega))
                refine wl_end rfl ?_
                refine nm_blk ?_
                refine nm_sub [(7, _), (88, _), (89, _)] ⟨rfl, rfl, rfl, trivial⟩ ?_
                refine nm_thn ?_
                refine ws_region rfl ?_
                refine wl_op (k := 0) (k' := 1) rfl rfl rfl (wo_run rfl rfl (run_add rfl rfl rfl (by first | omega | (simp only [List.length_set, List.length_append, List.length_replicate, List.length_singleton, List.length_cons, List.length_nil]; omega))) ?_)
                refine wl_op (k := 1) (k' := 2) rfl rfl rfl (wo_run rfl rfl (run_move rfl rfl) ?_)
                refine wl_end rfl ?_
                refine nm_lp ?_
                intro ax_ hax_
                refine ⟨_, ?hq7m, ⟨k3 + 1, _, (tb3.set k3 (ga tb3 k3)), _, _, (hle19.trans hle20), rfl, hax_.sub ⟨rfl, rfl, rfl, trivial⟩, S36.pick [0] [_] (by decide) ⟨rfl, trivial⟩, ?hq7f0, ?hq7f1, ?hq7f2, ?hq7f3⟩⟩
                case hq7f0 => omega
                case hq7f1 => (rw [set_self _ _ (by omega)]; exact hact3)
                case hq7f2 => simpa using htb3
                case hq7f3 => exact hd10
                case hq7m => omega
              · have hb90 := of_decide_eq_false hb90
                refine ws_exit rfl rfl ?_
                refine nm_sub [(7, _)] ⟨rfl, trivial⟩ ?_
                refine nm_thn ?_
                refine ws_seqN Act_n74 Act_n75 rfl rfl rfl ?_
                refine ws_region rfl ?_
                refine wl_op (k := 0) (k' := 1) rfl rfl rfl (wo_run rfl rfl (run_move rfl rfl) ?_)
                refine wl_op (k := 1) (k' := 2) rfl rfl rfl (wo_run rfl rfl (run_assign rfl rfl) ?_)
                refine wl_op (k := 2) (k' := 3) rfl rfl rfl (wo_run rfl rfl (run_assign rfl rfl) ?_)
                refine wl_end rfl ?_
                refine nm_sub [(4, _), (5, _)] ⟨rfl, rfl, trivial⟩ ?_
                refine nm_thn ?_
                obtain ⟨M21, hle21, S37, ⟨A6, c6, e1, hr13⟩⟩ := S34.pubrow (i := 0) (H' := [_]) rfl rfl (by show _ * 24 ≤ _; first | omega | (simp only [List.length_set, List.length_append, List.length_replicate, List.length_singleton, List.length_cons, List.length_nil]; omega))
                clear S34; subst e1
                replace hl := hl.mono (Hp.un_mono hle21 S37.mx)
                replace hd2 := hd2.mono hle21
                replace hdt := hdt.mono hle21
                replace hdt2 := hdt2.mono hle21
                replace hdt3 := hdt3.mono hle21
                refine ws_ret hC [_, _] rfl rfl ⟨rfl, rfl, trivial⟩ ?_
                refine ⟨_, rfl, _, ((hle1.trans hle3).trans hle19).trans hle21, (S37.pick [] [] (by decide) trivial), ?_⟩
                obtain rfl : k3 = m := by omega
                have e : actR (k3 : Int) l = (tb3, 0) := by unfold actR; rw [if_pos hck, hact3]; rfl
                rw [e]
                exact ⟨_, _, _, rfl, hr13, hdt3⟩

end Go.Proofs.Ythfiblbkkjcliaa
