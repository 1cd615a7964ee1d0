/- Part 8 of the proof of the law ColourCounts: the walks through its functions and the plain laws that they need. -/
import Derived.Test.YtefkjfcncpmneaaCcZ7
set_option linter.unusedSimpArgs false
set_option linter.unusedVariables false
namespace Go.Proofs.Ytefkjfcncpmneaa
open Go.ChangeShapes Go.WideShapes Go.ChangeAt Go.RowKit
/-- The place of the first that is so, or -1. -/
def idxF (p : Int → Bool) (xs : List Int) : Int := match xs.findIdx? p with
 | some i => (i : Int)
 | none => -1
theorem idxF_hit {p : Int → Bool} {xs : List Int} {k : Nat} (hk : k < xs.length) (h : p (ga xs k) = true) (h0 : ∀ j, j < k → p (ga xs j) = false) : idxF p xs = k := by
 have : xs.findIdx? p = some k := by
  rw [List.findIdx?_eq_some_iff_getElem]
  refine ⟨hk, by rw [← ga_eq hk]; exact h, fun j hj => ?_⟩
  rw [← ga_eq (by omega), h0 j hj]; simp
 simp [idxF, this]
theorem idxF_none {p : Int → Bool} {xs : List Int} (h0 : ∀ j, j < xs.length → p (ga xs j) = false) : idxF p xs = -1 := by
 have : xs.findIdx? p = none := by
  rw [List.findIdx?_eq_none_iff]
  intro x hx
  obtain ⟨j, hj, rfl⟩ := List.mem_iff_getElem.1 hx
  rw [← ga_eq hj]; exact h0 j hj
 simp [idxF, this]
theorem idxF_any (p : Int → Bool) (xs : List Int) : decide (0 ≤ idxF p xs) = xs.any p := by
 unfold idxF
 cases h : xs.findIdx? p with
 | some i =>
  rw [List.findIdx?_eq_some_iff_getElem] at h
  obtain ⟨h1, h2, _⟩ := h
  rw [Bool.eq_iff_iff, decide_eq_true_iff, List.any_eq_true]
  exact ⟨fun _ => ⟨xs[i], List.getElem_mem h1, h2⟩, fun _ => by show (0 : Int) ≤ (i : Int); omega⟩
 | none =>
  rw [List.findIdx?_eq_none_iff] at h
  rw [Bool.eq_iff_iff, decide_eq_true_iff, List.any_eq_true]
  constructor
  ·intro h1; exact absurd h1 (by decide)
  ·rintro ⟨x, hx, hp⟩; rw [h x hx] at hp; cases hp
noncomputable def IndexFuncI_n0 : Code := Try.f100.body.getD .skip
noncomputable def IndexFuncI_n1 : Code := cL IndexFuncI_n0
noncomputable def IndexFuncI_n2 : Code := cR IndexFuncI_n0
noncomputable def IndexFuncI_n3 : Code := cL IndexFuncI_n2
noncomputable def IndexFuncI_n4 : Code := cR IndexFuncI_n2
noncomputable def IndexFuncI_n5 : Code := cL IndexFuncI_n3
noncomputable def IndexFuncI_n6 : Code := cR IndexFuncI_n3
noncomputable def IndexFuncI_n7 : Code := cL IndexFuncI_n6
noncomputable def IndexFuncI_n8 : Code := cL IndexFuncI_n7
noncomputable def IndexFuncI_n9 : Code := cL IndexFuncI_n8
noncomputable def IndexFuncI_n10 : Code := cR IndexFuncI_n8
noncomputable def IndexFuncI_n11 : Code := cL IndexFuncI_n10
noncomputable def IndexFuncI_n12 : Code := cR IndexFuncI_n10
noncomputable def IndexFuncI_n13 : Code := cL IndexFuncI_n11
noncomputable def IndexFuncI_n14 : Code := cR IndexFuncI_n11
noncomputable def IndexFuncI_n15 : Code := cL IndexFuncI_n12
noncomputable def IndexFuncI_n16 : Code := cR IndexFuncI_n12
noncomputable def IndexFuncI_n17 : Code := cL IndexFuncI_n15
noncomputable def IndexFuncI_n18 : Code := cL IndexFuncI_n17
noncomputable def IndexFuncI_n19 : Code := cR IndexFuncI_n17
noncomputable def IndexFuncI_n20 : Code := cL IndexFuncI_n19
noncomputable def IndexFuncI_n21 : Code := cR IndexFuncI_n19
noncomputable def IndexFuncI_n22 : Code := cL IndexFuncI_n21
noncomputable def IndexFuncI_n23 : Code := cR IndexFuncI_n21
noncomputable def IndexFuncI_n24 : Code := cL IndexFuncI_n22
noncomputable def IndexFuncI_n25 : Code := cR IndexFuncI_n22
noncomputable def IndexFuncI_n26 : Code := cL IndexFuncI_n4
noncomputable def IndexFuncI_n27 : Code := cR IndexFuncI_n4
set_option maxRecDepth 10000 in
theorem IndexFuncI_q {w : World} {M : Hp} {X : Fr} (s : List Int) {sA : Option Addr} {sc : Nat} (fv : FuncId) (cap : List Value) (p : Int → Bool) (hs : RdA cdInt (M.un X.h) sA sc s) (hen : ∀ args w, (callFunc fv args).run Try.prog w = .ok (.enter fv args) w) (hf : ∀ (w : World) (Y : Fr), (M.un X.h).le (M.un Y.h) → SH w M Y [] → ∀ x ∈ s, Cq Try.prog fv ([.int .i64 x] ++ cap) w M Y (fun u => u = .bool (p x))) (S : SH w M X []) : Cq Try.prog 100 [.slice sA s.length sc, .func (.func fv) #[] cap.toArray] w M X (fun u => u = .int .i64 (idxF p s)) := by
 unfold Cq
 have rmhs : s.length * 8 ≤ 140737488355328 := hs.room
 have hroom : s.length * 8 ≤ 140737488355328 := hs.room
 refine calls_in (b := IndexFuncI_n0) Try.func100 rfl Try.ntmps100 rfl (fun C hC => ?_)
 refine ws_sub [(0, _), (1, _)] ⟨rfl, rfl, trivial⟩ ?_
 refine ws_seqN IndexFuncI_n1 IndexFuncI_n2 rfl rfl rfl ?_
 refine ws_region rfl ?_
 refine wla 0 1 rfl rfl rfl rfl rfl rfl rfl ?_
 refine wl_end rfl ?_
 refine nm_sub [(0, _), (1, _)] ⟨rfl, rfl, trivial⟩ ?_
 refine nm_thn ?_
 refine ws_seqN IndexFuncI_n3 IndexFuncI_n4 rfl rfl rfl ?_
 refine ws_seqN IndexFuncI_n5 IndexFuncI_n6 rfl rfl rfl ?_
 refine ws_region rfl ?_
 refine wlm 0 1 rfl rfl rfl rfl rfl rfl rfl ?_
 refine wlo 1 2 rfl rfl rfl (wo_run rfl rfl (run_len rfl rfl rfl rfl rfl rfl Try.underlying33) ?_)
 refine wlm 2 3 rfl rfl rfl rfl rfl rfl rfl ?_
 refine wl_end rfl ?_
 refine nm_sub [(0, _), (1, _), (7, _), (8, _)] ⟨rfl, rfl, rfl, rfl, trivial⟩ ?_
 refine nm_thn ?_
 refine ws_blockN IndexFuncI_n7 0 rfl rfl rfl ?_
 refine ws_loopE (fun mx_ ax_ wx_ => ∃ (k : Nat), mx_ = s.length - k ∧ Env 19 [(0, .slice sA s.length sc), (1, .func (.func fv) #[] cap.toArray), (7, .int .i64 (s.length : Int)), (8, .int .i64 (k : Int))] ax_ ∧ SH wx_ M X [] ∧ k ≤ s.length ∧ (∀ j, j < k → p (ga s j) = false)) rfl ?_ ?_
 ·intro ax_ hax_
  refine ⟨_, ⟨0, rfl, hax_.sub ⟨rfl, rfl, rfl, rfl, trivial⟩, S.pick [] [] (by decide) trivial, ?hq1f0, ?hq1f1⟩⟩
  case hq1f0 => omega
  case hq1f1 => (intro j hj; omega)
 ·rintro m1 a1 w1 ⟨k, rfl, he1, S1, hk, hno⟩
  clear S
  refine ws_in he1 (c := IndexFuncI_n8) rfl ?_
  clear he1 a1
  refine ws_seqN IndexFuncI_n9 IndexFuncI_n10 rfl rfl rfl ?_
  refine ws_region rfl ?_
  refine wlo 0 1 rfl rfl rfl (wo_run rfl rfl (run_lss rfl rfl rfl) ?_)
  refine wl_end rfl ?_
  refine nm_thn ?_
  refine ws_seqN IndexFuncI_n11 IndexFuncI_n12 rfl rfl rfl ?_
  refine ws_condN IndexFuncI_n13 IndexFuncI_n14 rfl rfl rfl rfl (fun hb9 => ?_) (fun hb9 => ?_)
  ·replace hb9 := of_decide_eq_true hb9
   refine ws_skip rfl ?_
   refine nm_sub [(0, _), (1, _), (7, _), (8, _)] ⟨rfl, rfl, rfl, rfl, trivial⟩ ?_
   refine nm_thn ?_
   refine ws_seqN IndexFuncI_n15 IndexFuncI_n16 rfl rfl rfl ?_
   refine ws_blockN IndexFuncI_n17 1 rfl rfl rfl ?_
   refine ws_seqN IndexFuncI_n18 IndexFuncI_n19 rfl rfl rfl ?_
   refine ws_region rfl ?_
   refine wlm 0 1 rfl rfl rfl rfl rfl rfl rfl ?_
   refine wla 1 2 rfl rfl rfl rfl rfl rfl rfl ?_
   refine wl_end rfl ?_
   refine nm_sub [(0, _), (1, _), (7, _), (8, _), (5, _)] ⟨rfl, rfl, rfl, rfl, rfl, trivial⟩ ?_
   refine nm_thn ?_
   refine ws_seqN IndexFuncI_n20 IndexFuncI_n21 rfl rfl rfl ?_
   refine ws_region rfl ?_
   refine wlm 0 1 rfl rfl rfl rfl rfl rfl rfl ?_
   refine wlm 1 2 rfl rfl rfl rfl rfl rfl rfl ?_
   refine wlm 2 3 rfl rfl rfl rfl rfl rfl rfl ?_
   refine wlo 3 4 rfl rfl rfl (wo_run rfl rfl (run_indexM (C := cdInt) k rfl rfl rfl sl33 (by first | rfl | omega) hs (by first | omega | (simp only [lens]; omega))) ?_)
   refine wlo 4 5 rfl rfl rfl (wo_run rfl rfl (run_load1 rfl rfl Try.underlying3 rfl (hs.cell S1.um (i := k) (by first | omega | (simp only [lens]; omega)) 0 rfl rfl)) ?_)
   refine wlo 5 6 rfl rfl rfl (wo_cqF rfl rfl rfl rfl rfl rfl rfl hen S1 (hf _ _ S1.un_XH S1.lend _ (ga_mem (by omega))) ?_)
   rintro _ w2 S2 rfl; clear S1
   refine wl_end rfl ?_
   refine nm_sub [(0, _), (1, _), (7, _), (8, _), (5, _), (16, _)] ⟨rfl, rfl, rfl, rfl, rfl, rfl, trivial⟩ ?_
   refine nm_thn ?_
   refine ws_condN IndexFuncI_n22 IndexFuncI_n23 rfl rfl rfl rfl (fun hb16 => ?_) (fun hb16 => ?_)
   ·refine ws_seqN IndexFuncI_n24 IndexFuncI_n25 rfl rfl rfl ?_
    refine ws_region rfl ?_
    refine wlm 0 1 rfl rfl rfl rfl rfl rfl rfl ?_
    refine wla 1 2 rfl rfl rfl rfl rfl rfl rfl ?_
    refine wl_end rfl ?_
    refine nm_sub [(4, _)] ⟨rfl, trivial⟩ ?_
    refine nm_thn ?_
    refine ws_ret hC [_] rfl rfl ⟨rfl, trivial⟩ ?_
    exact ⟨_, rfl, (S2.pick [] [] (by decide) trivial), (by rw [idxF_hit (by omega) hb16 hno]; rfl)⟩
   ·refine ws_skip rfl ?_
    refine nm_blk ?_
    refine nm_sub [(0, _), (1, _), (7, _), (8, _)] ⟨rfl, rfl, rfl, rfl, trivial⟩ ?_
    refine nm_thn ?_
    refine ws_region rfl ?_
    refine wlo 0 1 rfl rfl rfl (wo_run rfl rfl (run_add rfl rfl rfl (by first | omega | (simp only [lens]; omega))) ?_)
    refine wlm 1 2 rfl rfl rfl rfl rfl rfl rfl ?_
    refine wl_end rfl ?_
    refine nm_lp ?_
    intro ax_ hax_
    refine ⟨_, ?hq2m, ⟨k + 1, rfl, hax_.sub ⟨rfl, rfl, rfl, rfl, trivial⟩, S2.pick [] [] (by decide) trivial, ?hq2f0, ?hq2f1⟩⟩
    case hq2f0 => first | assumption | omega
    case hq2f1 => (intro j hj; by_cases h : j = k; (subst h; exact hb16); exact hno j (by omega))
    case hq2m => omega
  ·replace hb9 := of_decide_eq_false hb9
   refine ws_exit rfl rfl ?_
   refine nm_sub [] trivial ?_
   refine nm_thn ?_
   refine ws_seqN IndexFuncI_n26 IndexFuncI_n27 rfl rfl rfl ?_
   refine ws_region rfl ?_
   refine wla 0 1 rfl rfl rfl rfl rfl rfl rfl ?_
   refine wl_end rfl ?_
   refine nm_thn ?_
   refine ws_ret hC [_] rfl rfl ⟨rfl, trivial⟩ ?_
   exact ⟨_, rfl, (S1.pick [] [] (by decide) trivial), (by rw [idxF_none (fun j hj => hno j (by omega))]; rfl)⟩
noncomputable def ContainsFuncI_n0 : Code := Try.f71.body.getD .skip
noncomputable def ContainsFuncI_n1 : Code := cL ContainsFuncI_n0
noncomputable def ContainsFuncI_n2 : Code := cR ContainsFuncI_n0
noncomputable def ContainsFuncI_n3 : Code := cL ContainsFuncI_n2
noncomputable def ContainsFuncI_n4 : Code := cR ContainsFuncI_n2
set_option maxRecDepth 10000 in
theorem ContainsFuncI_q {w : World} {M : Hp} {X : Fr} (s : List Int) {sA : Option Addr} {sc : Nat} (fv : FuncId) (cap : List Value) (p : Int → Bool) (hs : RdA cdInt (M.un X.h) sA sc s) (hen : ∀ args w, (callFunc fv args).run Try.prog w = .ok (.enter fv args) w) (hf : ∀ (w : World) (Y : Fr), (M.un X.h).le (M.un Y.h) → SH w M Y [] → ∀ x ∈ s, Cq Try.prog fv ([.int .i64 x] ++ cap) w M Y (fun u => u = .bool (p x))) (S : SH w M X []) : Cq Try.prog 71 [.slice sA s.length sc, .func (.func fv) #[] cap.toArray] w M X (fun u => u = .bool (s.any p)) := by
 unfold Cq
 have rmhs : s.length * 8 ≤ 140737488355328 := hs.room
 refine calls_in (b := ContainsFuncI_n0) Try.func71 rfl Try.ntmps71 rfl (fun C hC => ?_)
 refine ws_sub [(0, _), (1, _)] ⟨rfl, rfl, trivial⟩ ?_
 refine ws_seqN ContainsFuncI_n1 ContainsFuncI_n2 rfl rfl rfl ?_
 refine ws_region rfl ?_
 refine wla 0 1 rfl rfl rfl rfl rfl rfl rfl ?_
 refine wl_end rfl ?_
 refine nm_sub [(0, _), (1, _)] ⟨rfl, rfl, trivial⟩ ?_
 refine nm_thn ?_
 refine ws_seqN ContainsFuncI_n3 ContainsFuncI_n4 rfl rfl rfl ?_
 refine ws_region rfl ?_
 refine wlm 0 1 rfl rfl rfl rfl rfl rfl rfl ?_
 refine wlm 1 2 rfl rfl rfl rfl rfl rfl rfl ?_
 refine wlo 2 3 rfl rfl rfl (wo_cq rfl rfl rfl rfl rfl rfl rfl cf100 S (IndexFuncI_q s fv cap p (hs.mono S.un_XH) hen (fun w Y hl S9 => hf w Y (S.un_XH.trans hl) S9) S.lend) ?_)
 rintro _ w1 S1 rfl; clear S
 refine wlo 3 4 rfl rfl rfl (wo_run rfl rfl (run_geq rfl rfl rfl) ?_)
 refine wla 4 5 rfl rfl rfl rfl rfl rfl rfl ?_
 refine wl_end rfl ?_
 refine nm_sub [(4, _)] ⟨rfl, trivial⟩ ?_
 refine nm_thn ?_
 refine ws_ret hC [_] rfl rfl ⟨rfl, trivial⟩ ?_
 exact ⟨_, rfl, (S1.pick [] [] (by decide) trivial), (by rw [← idxF_any]; rfl)⟩
def badQ (n a : Int) : Bool := decide (a < 0 ∨ n ≤ a)
/-- What the program asks of a column. -/
def paQ (q : List (List Int)) (a : Nat) : Prop := (∀ b, b < q.length → (∀ x, x < b → q2 q x a ≠ q2 q b a) ∧ ∀ c, c < q.length → dstQ q a b c) ∧ q2 q a a = (a : Int)
theorem cntQ_0 {q : List (List Int)} {b c n : Nat} (h : ∀ i, i < n → q2 q i b ≠ (c : Int)) : cntQ q b c n = 0 := by
 induction n with
 | zero => rfl
 | succ n ih => rw [cntQ, ih (fun i hi => h i (by omega)), if_neg (h n (by omega))]
theorem cntQ_1 {q : List (List Int)} {b c n i : Nat} (hi : i < n) (h : q2 q i b = (c : Int)) : 1 ≤ cntQ q b c n := by
 induction n with
 | zero => omega
 | succ n ih =>
  rw [cntQ]
  by_cases e : i = n
  ·subst e; rw [if_pos h]; omega
  ·have := ih (by omega); omega
theorem cntQ_2 {q : List (List Int)} {b c n i j : Nat} (hij : i < j) (hj : j < n) (h : q2 q i b = (c : Int)) (h2 : q2 q j b = (c : Int)) : 2 ≤ cntQ q b c n := by
 induction n with
 | zero => omega
 | succ n ih =>
  rw [cntQ]
  by_cases e : j = n
  ·subst e; rw [if_pos h2]; have := cntQ_1 hij h; omega
  ·have := ih (by omega); omega
theorem cntQ_le1 {q : List (List Int)} {b c n : Nat} (h : ∀ j, j < n → ∀ x, x < j → q2 q x b ≠ q2 q j b) : cntQ q b c n ≤ 1 := by
 induction n with
 | zero => exact Nat.zero_le _
 | succ n ih =>
  rw [cntQ]
  split
  ·rename_i e
   rw [cntQ_0 (fun i hi e2 => h n (by omega) i hi (by rw [e2, e]))]
   omega
  ·have := ih (fun j hj => h j (by omega)); omega
/-- All together. -/
def sumQ (q : List (List Int)) (b n : Nat) : Nat → Nat
 | 0 => 0
 | c + 1 => sumQ q b n c + cntQ q b c n
theorem sumQ_succ (q : List (List Int)) (b n m : Nat) : sumQ q b (n + 1) m = sumQ q b n m + if 0 ≤ q2 q n b ∧ q2 q n b < (m : Int) then 1 else 0 := by
 induction m with
 | zero => rw [if_neg (by omega)]; rfl
 | succ m ih =>
  rw [sumQ, sumQ, cntQ, ih]
  by_cases h1 : q2 q n b = (m : Int)
  ·rw [if_pos h1, if_neg (by omega), if_pos (by omega)]; omega
  ·rw [if_neg h1]
   by_cases h2 : 0 ≤ q2 q n b ∧ q2 q n b < (m : Int)
   ·rw [if_pos h2, if_pos (by omega)]; omega
   ·rw [if_neg h2, if_neg (by omega)]; omega
theorem sumQ_all {q : List (List Int)} {b m : Nat} {n : Nat} (h : ∀ i, i < n → 0 ≤ q2 q i b ∧ q2 q i b < (m : Int)) : sumQ q b n m = n := by
 induction n with
 | zero =>
  have : ∀ m, sumQ q b 0 m = 0 := fun m => by
   induction m with
   | zero => rfl
   | succ m ih => rw [sumQ, ih]; rfl
  exact this m
 | succ n ih => rw [sumQ_succ, ih (fun i hi => h i (by omega)), if_pos (h n (by omega))]
theorem sumQ_le {q : List (List Int)} {b n m : Nat} (h : ∀ c, c < m → cntQ q b c n ≤ 1) : sumQ q b n m ≤ m ∧ ((∃ c, c < m ∧ cntQ q b c n = 0) → sumQ q b n m + 1 ≤ m) := by
 induction m with
 | zero => exact ⟨Nat.zero_le _, fun ⟨c, hc, _⟩ => absurd hc (by omega)⟩
 | succ m ih =>
  obtain ⟨h1, h2⟩ := ih (fun c hc => h c (by omega))
  have h3 := h m (by omega)
  rw [sumQ]
  refine ⟨by omega, fun ⟨c, hc, e⟩ => ?_⟩
  by_cases e2 : c = m
  ·subst e2; omega
  ·have := h2 ⟨c, by omega, e⟩; omega
theorem quK_iff {q : List (List Int)} (hF : QuF q) : QuK q ↔ ∀ a, a < q.length → paQ q a := by
 have hv := fun i x (h : i < q.length) (h2 : x < q.length) => (hF.2.2 i h).2 x h2
 constructor
 ·intro h a ha
  refine ⟨fun b hb => ⟨fun x hx e => ?_, fun c hc => ((h b hb).2 c hc).1 a ha⟩, (h a ha).1⟩
  have h1 := hv b a hb ha
  have h2 := ((h a ha).2 (q2 q b a).toNat (by omega)).2
  have := cntQ_2 (q := q) (b := a) (c := (q2 q b a).toNat) hx hb (by omega) (by omega)
  omega
 ·intro h b hb
  refine ⟨(h b hb).2, fun c hc => ⟨fun a ha => ((h a ha).1 b hb).2 c hc, ?_⟩⟩
  have h1 : ∀ c, c < q.length → cntQ q b c q.length ≤ 1 := fun c _ => cntQ_le1 fun j hj => ((h b hb).1 j hj).1
  have h2 := sumQ_all (q := q) (b := b) (m := q.length) (n := q.length) (fun i hi => hv i b hi hb)
  have h3 := (sumQ_le (m := q.length) h1).2
  rcases Nat.eq_zero_or_pos (cntQ q b c q.length) with e | e
  ·have := h3 ⟨c, hc, e⟩; omega
  ·have := h1 c hc; omega
/-- What was hit. -/
def HitQ (q : List (List Int)) (a b : Nat) (h : Nat → Bool) : Prop := ∀ e, e < 4 → (h e = true ↔ ∃ x, x < b ∧ q2 q x a = (e : Int))
theorem HitQ.zero (q : List (List Int)) (a : Nat) : HitQ q a 0 (fun _ => false) := fun e _ => ⟨fun h => (by cases h), fun ⟨x, hx, _⟩ => absurd hx (by omega)⟩
theorem HitQ.put {q : List (List Int)} {a b : Nat} {h : Nat → Bool} (H : HitQ q a b h) (h0 : 0 ≤ q2 q b a) : HitQ q a (b + 1) (upd h (q2 q b a).toNat true) := fun e he => by
 unfold upd
 split
 ·rename_i e2
  exact ⟨fun _ => ⟨b, by omega, by omega⟩, fun _ => rfl⟩
 ·rename_i e2
  rw [H e he]
  exact ⟨fun ⟨x, hx, h⟩ => ⟨x, by omega, h⟩, fun ⟨x, hx, h⟩ => ⟨x, by rcases Nat.lt_or_ge x b with h9 | h9; exact h9; exact absurd (show e = _ by obtain rfl : x = b := (by omega); omega) e2, h⟩⟩
noncomputable def quandle1_n0 : Code := Try.f85.body.getD .skip
noncomputable def quandle1_n1 : Code := cL quandle1_n0
noncomputable def quandle1_n2 : Code := cR quandle1_n0
noncomputable def quandle1_n3 : Code := cL quandle1_n2
noncomputable def quandle1_n4 : Code := cR quandle1_n2
set_option maxRecDepth 10000 in
theorem quandle1_q {w : World} {M : Hp} {X : Fr} (a : Int) (n : Int) {g : Nat} (hb : BxM (M.un X.h) g 3 [.int .i64 n]) (S : SH w M X []) : Cq Try.prog 85 [.int .i64 a, .pointer (some ⟨g, 0, none⟩)] w M X (fun u => u = .bool (badQ n a)) := by
 unfold Cq
 refine calls_in (b := quandle1_n0) Try.func85 rfl Try.ntmps85 rfl (fun C hC => ?_)
 refine ws_sub [(0, _), (1, _)] ⟨rfl, rfl, trivial⟩ ?_
 refine ws_seqN quandle1_n1 quandle1_n2 rfl rfl rfl ?_
 refine ws_region rfl ?_
 refine wla 0 1 rfl rfl rfl rfl rfl rfl rfl ?_
 refine wl_end rfl ?_
 refine nm_sub [(0, _), (1, _)] ⟨rfl, rfl, trivial⟩ ?_
 refine nm_thn ?_
 refine ws_seqN quandle1_n3 quandle1_n4 rfl rfl rfl ?_
 refine ws_region rfl ?_
 refine wlm 0 1 rfl rfl rfl rfl rfl rfl rfl ?_
 refine wlo 1 2 rfl rfl rfl (wo_run rfl rfl (run_lss rfl rfl rfl) ?_)
 refine wlm 2 3 rfl rfl rfl rfl rfl rfl rfl ?_
 refine wl_split (t := 6) rfl (fun hg6 => ?_) (fun hg6 => ?_)
 ·replace hg6 := of_decide_eq_true hg6
  refine wl_no (k := 3) (k' := 4) (d := 7) rfl rfl ⟨_, _, _, rfl, rfl, rfl, rfl⟩ rfl rfl ?_
  refine wl_no (k := 4) (k' := 5) (d := 8) rfl rfl ⟨_, _, _, rfl, rfl, rfl, rfl⟩ rfl rfl ?_
  refine wl_no (k := 5) (k' := 6) (d := 9) rfl rfl ⟨_, _, _, rfl, rfl, rfl, rfl⟩ rfl rfl ?_
  refine wlo 6 7 rfl rfl rfl (wo_run rfl rfl (run_pickT rfl rfl rfl) ?_)
  refine wla 7 8 rfl rfl rfl rfl rfl rfl rfl ?_
  refine wl_end rfl ?_
  refine nm_sub [(3, _)] ⟨rfl, trivial⟩ ?_
  refine nm_thn ?_
  refine ws_ret hC [_] rfl rfl ⟨rfl, trivial⟩ ?_
  exact ⟨_, rfl, (S.pick [] [] (by decide) trivial), (by show Value.bool _ = Value.bool _; refine congrArg Value.bool ?_; unfold badQ; first | (symm; rw [decide_eq_true_iff]; omega) | (rw [decide_eq_decide]; omega))⟩
 ·replace hg6 := of_decide_eq_false hg6
  refine wl_opG (k := 3) (k' := 4) rfl rfl ⟨_, _, _, rfl, rfl, rfl, rfl⟩ rfl (wo_run rfl rfl (run_move rfl rfl) ?_)
  refine wl_opG (k := 4) (k' := 5) rfl rfl ⟨_, _, _, rfl, rfl, rfl, rfl⟩ rfl (wo_run rfl rfl (run_load1 rfl rfl Try.underlying3 rfl (hb.cell S.um rfl)) ?_)
  refine wl_opG (k := 5) (k' := 6) rfl rfl ⟨_, _, _, rfl, rfl, rfl, rfl⟩ rfl (wo_run rfl rfl (run_geq rfl rfl rfl) ?_)
  refine wlo 6 7 rfl rfl rfl (wo_run rfl rfl (run_pickF rfl rfl rfl) ?_)
  refine wla 7 8 rfl rfl rfl rfl rfl rfl rfl ?_
  refine wl_end rfl ?_
  refine nm_sub [(3, _)] ⟨rfl, trivial⟩ ?_
  refine nm_thn ?_
  refine ws_ret hC [_] rfl rfl ⟨rfl, trivial⟩ ?_
  exact ⟨_, rfl, (S.pick [] [] (by decide) trivial), (by show Value.bool _ = Value.bool _; refine congrArg Value.bool ?_; unfold badQ; first | (symm; rw [decide_eq_true_iff]; omega) | (rw [decide_eq_decide]; omega))⟩
theorem badQ_f {xs : List Int} {n : Int} (h : xs.any (badQ n) = false) {x : Nat} (hx : x < xs.length) : 0 ≤ ga xs x ∧ ga xs x < n := by
 have h1 : ¬ badQ n (ga xs x) = true := fun e => by rw [List.any_eq_true.2 ⟨_, ga_mem hx, e⟩] at h; cases h
 unfold badQ at h1
 rw [decide_eq_true_iff] at h1
 omega
theorem badQ_t {xs : List Int} {n : Int} (h : xs.any (badQ n) = true) (hl : (xs.length : Int) = n) (h2 : ∀ x, x < xs.length → 0 ≤ ga xs x ∧ ga xs x < n) : False := by
 obtain ⟨y, hy, h3⟩ := List.any_eq_true.1 h
 obtain ⟨j, hj, rfl⟩ := List.mem_iff_getElem.1 hy
 have := h2 j hj
 rw [ga_eq hj] at this
 unfold badQ at h3
 rw [decide_eq_true_iff] at h3
 omega
noncomputable def quandle_n0 : Code := Try.f53.body.getD .skip
noncomputable def quandle_n1 : Code := cL quandle_n0
noncomputable def quandle_n2 : Code := cR quandle_n0
noncomputable def quandle_n3 : Code := cL quandle_n2
noncomputable def quandle_n4 : Code := cR quandle_n2
noncomputable def quandle_n5 : Code := cL quandle_n4
noncomputable def quandle_n6 : Code := cR quandle_n4
noncomputable def quandle_n7 : Code := cL quandle_n5
noncomputable def quandle_n8 : Code := cR quandle_n5
noncomputable def quandle_n9 : Code := cL quandle_n8
noncomputable def quandle_n10 : Code := cR quandle_n8
noncomputable def quandle_n11 : Code := cL quandle_n9
noncomputable def quandle_n12 : Code := cR quandle_n9
noncomputable def quandle_n13 : Code := cL quandle_n6
noncomputable def quandle_n14 : Code := cR quandle_n6
noncomputable def quandle_n15 : Code := cL quandle_n13
noncomputable def quandle_n16 : Code := cR quandle_n13
noncomputable def quandle_n17 : Code := cL quandle_n16
noncomputable def quandle_n18 : Code := cL quandle_n17
noncomputable def quandle_n19 : Code := cL quandle_n18
noncomputable def quandle_n20 : Code := cR quandle_n18
noncomputable def quandle_n21 : Code := cL quandle_n20
noncomputable def quandle_n22 : Code := cR quandle_n20
noncomputable def quandle_n23 : Code := cL quandle_n21
noncomputable def quandle_n24 : Code := cR quandle_n21
noncomputable def quandle_n25 : Code := cL quandle_n22
noncomputable def quandle_n26 : Code := cR quandle_n22
noncomputable def quandle_n27 : Code := cL quandle_n25
noncomputable def quandle_n28 : Code := cL quandle_n27
noncomputable def quandle_n29 : Code := cR quandle_n27
noncomputable def quandle_n30 : Code := cL quandle_n29
noncomputable def quandle_n31 : Code := cR quandle_n29
noncomputable def quandle_n32 : Code := cL quandle_n31
noncomputable def quandle_n33 : Code := cR quandle_n31
noncomputable def quandle_n34 : Code := cL quandle_n32
noncomputable def quandle_n35 : Code := cR quandle_n32
noncomputable def quandle_n36 : Code := cL quandle_n14
noncomputable def quandle_n37 : Code := cR quandle_n14
noncomputable def quandle_n38 : Code := cL quandle_n36
noncomputable def quandle_n39 : Code := cR quandle_n36
noncomputable def quandle_n40 : Code := cL quandle_n39
noncomputable def quandle_n41 : Code := cL quandle_n40
noncomputable def quandle_n42 : Code := cL quandle_n41
noncomputable def quandle_n43 : Code := cR quandle_n41
noncomputable def quandle_n44 : Code := cL quandle_n43
noncomputable def quandle_n45 : Code := cR quandle_n43
noncomputable def quandle_n46 : Code := cL quandle_n44
noncomputable def quandle_n47 : Code := cR quandle_n44
noncomputable def quandle_n48 : Code := cL quandle_n45
noncomputable def quandle_n49 : Code := cR quandle_n45
noncomputable def quandle_n50 : Code := cL quandle_n48
noncomputable def quandle_n51 : Code := cL quandle_n50
noncomputable def quandle_n52 : Code := cR quandle_n50
noncomputable def quandle_n53 : Code := cL quandle_n52
noncomputable def quandle_n54 : Code := cR quandle_n52
noncomputable def quandle_n55 : Code := cL quandle_n54
noncomputable def quandle_n56 : Code := cR quandle_n54
noncomputable def quandle_n57 : Code := cL quandle_n55
noncomputable def quandle_n58 : Code := cR quandle_n55
noncomputable def quandle_n59 : Code := cL quandle_n58
noncomputable def quandle_n60 : Code := cL quandle_n59
noncomputable def quandle_n61 : Code := cL quandle_n60
noncomputable def quandle_n62 : Code := cR quandle_n60
noncomputable def quandle_n63 : Code := cL quandle_n62
noncomputable def quandle_n64 : Code := cR quandle_n62
noncomputable def quandle_n65 : Code := cL quandle_n63
noncomputable def quandle_n66 : Code := cR quandle_n63
noncomputable def quandle_n67 : Code := cL quandle_n64
noncomputable def quandle_n68 : Code := cR quandle_n64
noncomputable def quandle_n69 : Code := cL quandle_n67
noncomputable def quandle_n70 : Code := cL quandle_n69
noncomputable def quandle_n71 : Code := cR quandle_n69
noncomputable def quandle_n72 : Code := cL quandle_n71
noncomputable def quandle_n73 : Code := cR quandle_n71
noncomputable def quandle_n74 : Code := cL quandle_n72
noncomputable def quandle_n75 : Code := cR quandle_n72
noncomputable def quandle_n76 : Code := cL quandle_n75
noncomputable def quandle_n77 : Code := cR quandle_n75
noncomputable def quandle_n78 : Code := cL quandle_n76
noncomputable def quandle_n79 : Code := cR quandle_n76
noncomputable def quandle_n80 : Code := cL quandle_n73
noncomputable def quandle_n81 : Code := cR quandle_n73
noncomputable def quandle_n82 : Code := cL quandle_n81
noncomputable def quandle_n83 : Code := cR quandle_n81
noncomputable def quandle_n84 : Code := cL quandle_n83
noncomputable def quandle_n85 : Code := cL quandle_n84
noncomputable def quandle_n86 : Code := cL quandle_n85
noncomputable def quandle_n87 : Code := cR quandle_n85
noncomputable def quandle_n88 : Code := cL quandle_n87
noncomputable def quandle_n89 : Code := cR quandle_n87
noncomputable def quandle_n90 : Code := cL quandle_n88
noncomputable def quandle_n91 : Code := cR quandle_n88
noncomputable def quandle_n92 : Code := cL quandle_n89
noncomputable def quandle_n93 : Code := cR quandle_n89
noncomputable def quandle_n94 : Code := cL quandle_n92
noncomputable def quandle_n95 : Code := cL quandle_n94
noncomputable def quandle_n96 : Code := cR quandle_n94
noncomputable def quandle_n97 : Code := cL quandle_n96
noncomputable def quandle_n98 : Code := cR quandle_n96
noncomputable def quandle_n99 : Code := cL quandle_n98
noncomputable def quandle_n100 : Code := cR quandle_n98
noncomputable def quandle_n101 : Code := cL quandle_n99
noncomputable def quandle_n102 : Code := cR quandle_n99
noncomputable def quandle_n103 : Code := cL quandle_n56
noncomputable def quandle_n104 : Code := cR quandle_n56
noncomputable def quandle_n105 : Code := cL quandle_n104
noncomputable def quandle_n106 : Code := cR quandle_n104
noncomputable def quandle_n107 : Code := cL quandle_n105
noncomputable def quandle_n108 : Code := cR quandle_n105
noncomputable def quandle_n109 : Code := cL quandle_n37
noncomputable def quandle_n110 : Code := cR quandle_n37
set_option maxHeartbeats 4000000 in
set_option maxRecDepth 10000 in
theorem quandle_q {w : World} {M : Hp} {X : Fr} (q : List (List Int)) {qA : Option Addr} {qc : Nat} {qv : List SlV} (hq : RdA (cdV 33) (M.un X.h) qA qc qv) (hdq : Rd2 cdInt (M.un X.h) qv q) (S : SH w M X []) : Cq Try.prog 53 [.slice qA qv.length qc] w M X (fun u => u = .int .i64 (quE q)) := by
 unfold Cq
 have rmhq : qv.length * 24 ≤ 140737488355328 := hq.room
 have hlq := hdq.1
 refine calls_in (b := quandle_n0) Try.func53 rfl Try.ntmps53 rfl (fun C hC => ?_)
 refine ws_sub [(0, _)] ⟨rfl, trivial⟩ ?_
 refine ws_seqN quandle_n1 quandle_n2 rfl rfl rfl ?_
 refine ws_region rfl ?_
 refine wla 0 1 rfl rfl rfl rfl rfl rfl rfl ?_
 refine wl_end rfl ?_
 refine nm_sub [(0, _)] ⟨rfl, trivial⟩ ?_
 refine nm_thn ?_
 refine ws_seqN quandle_n3 quandle_n4 rfl rfl rfl ?_
 refine ws_region rfl ?_
 refine wlm 0 1 rfl rfl rfl rfl rfl rfl rfl ?_
 refine wlo 1 2 rfl rfl rfl (wo_run rfl rfl (run_len rfl rfl rfl rfl rfl rfl Try.underlying34) ?_)
 refine wlo 2 3 rfl rfl rfl (wo_alloc (l := [_]) rfl rfl rfl zr3 rfl S ?_)
 intro gb1 w1 S1; clear S
 refine wlo 3 4 rfl rfl rfl (wo_storeB (i := 0) (us := [_]) (l' := [_]) (H' := [_]) rfl rfl S1 rfl rfl rfl rfl sz3 rfl rfl rfl rfl ?_)
 intro w2 S2; clear S1
 refine wl_end rfl ?_
 refine nm_sub [(0, _), (3, _)] ⟨rfl, rfl, trivial⟩ ?_
 refine nm_thn ?_
 refine ws_seqN quandle_n5 quandle_n6 rfl rfl rfl ?_
 refine ws_seqN quandle_n7 quandle_n8 rfl rfl rfl ?_
 refine ws_region rfl ?_
 refine wlo 0 1 rfl rfl rfl (wo_run rfl rfl (run_load1 rfl rfl Try.underlying3 rfl (S2.boxc (i := 0) rfl rfl)) ?_)
 refine wlo 1 2 rfl rfl rfl (wo_run rfl rfl (run_lss rfl rfl rfl) ?_)
 refine wlm 2 3 rfl rfl rfl rfl rfl rfl rfl ?_
 refine wl_split (t := 14) rfl (fun hg14 => ?_) (fun hg14 => ?_)
 ·replace hg14 := of_decide_eq_true hg14
  refine wl_no (k := 3) (k' := 4) (d := 15) rfl rfl ⟨_, _, _, rfl, rfl, rfl, rfl⟩ rfl rfl ?_
  refine wl_no (k := 4) (k' := 5) (d := 16) rfl rfl ⟨_, _, _, rfl, rfl, rfl, rfl⟩ rfl rfl ?_
  refine wlo 5 6 rfl rfl rfl (wo_run rfl rfl (run_pickT rfl rfl rfl) ?_)
  refine wl_end rfl ?_
  refine nm_sub [(0, _), (3, _), (17, _)] ⟨rfl, rfl, rfl, trivial⟩ ?_
  refine nm_thn ?_
  refine ws_condTN quandle_n9 rfl rfl rfl ?_
  refine ws_seqN quandle_n11 quandle_n12 rfl rfl rfl ?_
  refine ws_region rfl ?_
  refine wla 0 1 rfl rfl rfl rfl rfl rfl rfl ?_
  refine wl_end rfl ?_
  refine nm_sub [(2, _)] ⟨rfl, trivial⟩ ?_
  refine nm_thn ?_
  refine ws_ret hC [_] rfl rfl ⟨rfl, trivial⟩ ?_
  exact ⟨_, rfl, (S2.pick [] [] (by decide) trivial), (congrArg (Value.int .i64) (quE_1 (fun h => by first | (have := h.1; have := h.2.1; omega) | (have := (h.2.2 a (by omega)).1; omega) | exact badQ_t hb32 (by omega) (fun x hx => by have := (h.2.2 a (by omega)).2 x (by omega); unfold q2 at this; omega))).symm)⟩
 ·replace hg14 := of_decide_eq_false hg14
  refine wl_opG (k := 3) (k' := 4) rfl rfl ⟨_, _, _, rfl, rfl, rfl, rfl⟩ rfl (wo_run rfl rfl (run_load1 rfl rfl Try.underlying3 rfl (S2.boxc (i := 0) rfl rfl)) ?_)
  refine wl_opG (k := 4) (k' := 5) rfl rfl ⟨_, _, _, rfl, rfl, rfl, rfl⟩ rfl (wo_run rfl rfl (run_gtr rfl rfl rfl) ?_)
  refine wlo 5 6 rfl rfl rfl (wo_run rfl rfl (run_pickF rfl rfl rfl) ?_)
  refine wl_end rfl ?_
  refine nm_sub [(0, _), (3, _), (17, _)] ⟨rfl, rfl, rfl, trivial⟩ ?_
  refine nm_thn ?_
  refine ws_condN quandle_n9 quandle_n10 rfl rfl rfl rfl (fun hb17 => ?_) (fun hb17 => ?_)
  ·replace hb17 := of_decide_eq_true hb17
   refine ws_seqN quandle_n11 quandle_n12 rfl rfl rfl ?_
   refine ws_region rfl ?_
   refine wla 0 1 rfl rfl rfl rfl rfl rfl rfl ?_
   refine wl_end rfl ?_
   refine nm_sub [(2, _)] ⟨rfl, trivial⟩ ?_
   refine nm_thn ?_
   refine ws_ret hC [_] rfl rfl ⟨rfl, trivial⟩ ?_
   exact ⟨_, rfl, (S2.pick [] [] (by decide) trivial), (congrArg (Value.int .i64) (quE_1 (fun h => by first | (have := h.1; have := h.2.1; omega) | (have := (h.2.2 a (by omega)).1; omega) | exact badQ_t hb32 (by omega) (fun x hx => by have := (h.2.2 a (by omega)).2 x (by omega); unfold q2 at this; omega))).symm)⟩
  ·replace hb17 := of_decide_eq_false hb17
   refine ws_skip rfl ?_
   refine nm_sub [(0, _), (3, _)] ⟨rfl, rfl, trivial⟩ ?_
   refine nm_thn ?_
   refine ws_seqN quandle_n13 quandle_n14 rfl rfl rfl ?_
   refine ws_seqN quandle_n15 quandle_n16 rfl rfl rfl ?_
   refine ws_region rfl ?_
   refine wlm 0 1 rfl rfl rfl rfl rfl rfl rfl ?_
   refine wlo 1 2 rfl rfl rfl (wo_run rfl rfl (run_len rfl rfl rfl rfl rfl rfl Try.underlying34) ?_)
   refine wlm 2 3 rfl rfl rfl rfl rfl rfl rfl ?_
   refine wl_end rfl ?_
   refine nm_thn ?_
   refine ws_blockN quandle_n17 0 rfl rfl rfl ?_
   refine ws_loopE (fun mx_ ax_ wx_ => ∃ (a : Nat), mx_ = q.length - a ∧ Env 109 [(0, .slice qA qv.length qc), (3, .pointer (some ⟨gb1, 0, none⟩)), (18, .slice qA qv.length qc), (19, .int .i64 (qv.length : Int)), (20, .int .i64 (a : Int))] ax_ ∧ SH wx_ M X [Rs.box gb1 3 [.int .i64 (qv.length : Int)]] ∧ a ≤ q.length ∧ (∀ i, i < a → (ga q i).length = q.length ∧ ∀ x, x < q.length → 0 ≤ q2 q i x ∧ q2 q i x < (q.length : Int))) rfl ?_ ?_
   ·intro ax_ hax_
    refine ⟨_, ⟨0, rfl, hax_.sub ⟨rfl, rfl, rfl, rfl, rfl, trivial⟩, S2.pick [0] [_] (by decide) ⟨rfl, trivial⟩, ?hq1f0, ?hq1f1⟩⟩
    case hq1f0 => omega
    case hq1f1 => (intro i hi; omega)
   ·rintro m1 a1 w3 ⟨a, rfl, he1, S3, ha, hF⟩
    clear S2
    refine ws_in he1 (c := quandle_n18) rfl ?_
    clear he1 a1
    refine ws_seqN quandle_n19 quandle_n20 rfl rfl rfl ?_
    refine ws_region rfl ?_
    refine wlo 0 1 rfl rfl rfl (wo_run rfl rfl (run_lss rfl rfl rfl) ?_)
    refine wl_end rfl ?_
    refine nm_thn ?_
    refine ws_seqN quandle_n21 quandle_n22 rfl rfl rfl ?_
    refine ws_condN quandle_n23 quandle_n24 rfl rfl rfl rfl (fun hb21 => ?_) (fun hb21 => ?_)
    ·replace hb21 := of_decide_eq_true hb21
     refine ws_skip rfl ?_
     refine nm_sub [(0, _), (3, _), (18, _), (19, _), (20, _)] ⟨rfl, rfl, rfl, rfl, rfl, trivial⟩ ?_
     refine nm_thn ?_
     refine ws_seqN quandle_n25 quandle_n26 rfl rfl rfl ?_
     refine ws_blockN quandle_n27 1 rfl rfl rfl ?_
     refine ws_seqN quandle_n28 quandle_n29 rfl rfl rfl ?_
     refine ws_region rfl ?_
     refine wlo 0 1 rfl rfl rfl (wo_run rfl rfl (run_indexM (C := (cdV 33)) a rfl rfl rfl sl34 (by first | rfl | omega) hq (by first | omega | (simp only [lens]; omega))) ?_)
     obtain ⟨hn1, hr1⟩ := hdq.2 a (by first | omega | (simp only [lens]; omega))
     have rmhr1 : (ga q a).length * 8 ≤ 140737488355328 := hr1.room
     refine wlo 1 2 rfl rfl rfl (wo_run rfl rfl (run_load1 rfl rfl Try.underlying33 rfl (hq.cell S3.um (i := a) (by first | omega | (simp only [lens]; omega)) 0 rfl (congrArg (fun n => some (Value.slice _ n _)) hn1))) ?_)
     refine wla 2 3 rfl rfl rfl rfl rfl rfl rfl ?_
     refine wl_end rfl ?_
     refine nm_sub [(0, _), (3, _), (18, _), (19, _), (20, _), (5, _)] ⟨rfl, rfl, rfl, rfl, rfl, rfl, trivial⟩ ?_
     refine nm_thn ?_
     refine ws_seqN quandle_n30 quandle_n31 rfl rfl rfl ?_
     refine ws_region rfl ?_
     refine wlm 0 1 rfl rfl rfl rfl rfl rfl rfl ?_
     refine wlo 1 2 rfl rfl rfl (wo_run rfl rfl (run_len rfl rfl rfl rfl rfl rfl Try.underlying33) ?_)
     refine wlo 2 3 rfl rfl rfl (wo_run rfl rfl (run_load1 rfl rfl Try.underlying3 rfl (S3.boxc (i := 0) rfl rfl)) ?_)
     refine wlo 3 4 rfl rfl rfl (wo_run rfl rfl (run_neq rfl rfl rfl) ?_)
     refine wlm 4 5 rfl rfl rfl rfl rfl rfl rfl ?_
     refine wl_split (t := 28) rfl (fun hg28 => ?_) (fun hg28 => ?_)
     ·replace hg28 := of_decide_eq_true hg28
      refine wl_no (k := 5) (k' := 6) (d := 29) rfl rfl ⟨_, _, _, rfl, rfl, rfl, rfl⟩ rfl rfl ?_
      refine wl_no (k := 6) (k' := 7) (d := 30) rfl rfl ⟨_, _, _, rfl, rfl, rfl, rfl⟩ rfl rfl ?_
      refine wl_no (k := 7) (k' := 8) (d := 31) rfl rfl ⟨_, _, _, rfl, rfl, rfl, rfl⟩ rfl rfl ?_
      refine wlo 8 9 rfl rfl rfl (wo_run rfl rfl (run_pickT rfl rfl rfl) ?_)
      refine wl_end rfl ?_
      refine nm_sub [(0, _), (3, _), (18, _), (19, _), (20, _), (32, _)] ⟨rfl, rfl, rfl, rfl, rfl, rfl, trivial⟩ ?_
      refine nm_thn ?_
      refine ws_condTN quandle_n32 rfl rfl rfl ?_
      refine ws_seqN quandle_n34 quandle_n35 rfl rfl rfl ?_
      refine ws_region rfl ?_
      refine wla 0 1 rfl rfl rfl rfl rfl rfl rfl ?_
      refine wl_end rfl ?_
      refine nm_sub [(2, _)] ⟨rfl, trivial⟩ ?_
      refine nm_thn ?_
      refine ws_ret hC [_] rfl rfl ⟨rfl, trivial⟩ ?_
      exact ⟨_, rfl, (S3.pick [] [] (by decide) trivial), (congrArg (Value.int .i64) (quE_1 (fun h => by first | (have := h.1; have := h.2.1; omega) | (have := (h.2.2 a (by omega)).1; omega) | exact badQ_t hb32 (by omega) (fun x hx => by have := (h.2.2 a (by omega)).2 x (by omega); unfold q2 at this; omega))).symm)⟩
     ·replace hg28 := of_decide_eq_false hg28
      refine wl_opG (k := 5) (k' := 6) rfl rfl ⟨_, _, _, rfl, rfl, rfl, rfl⟩ rfl (wo_run rfl rfl (run_move rfl rfl) ?_)
      refine wl_opG (k := 6) (k' := 7) rfl rfl ⟨_, _, _, rfl, rfl, rfl, rfl⟩ rfl (wo_run rfl rfl (run_makeFunc (vs := [_]) rfl rfl rfl rfl) ?_)
      refine wl_opG (k := 7) (k' := 8) rfl rfl ⟨_, _, _, rfl, rfl, rfl, rfl⟩ rfl (wo_cq rfl rfl rfl rfl rfl rfl rfl cf71 S3 (ContainsFuncI_q (ga q a) 85 _ (badQ (qv.length : Int)) (hr1.mono S3.un_XH) cf85 (fun w9 Y9 hl9 S9 x9 _ => quandle1_q x9 (qv.length : Int) ((S3.boxM (i := 0) rfl).mono hl9) S9) S3.lend) ?_)
      rintro _ w4 S4 rfl; clear S3
      refine wlo 8 9 rfl rfl rfl (wo_run rfl rfl (run_pickF rfl rfl rfl) ?_)
      refine wl_end rfl ?_
      refine nm_sub [(0, _), (3, _), (18, _), (19, _), (20, _), (32, _)] ⟨rfl, rfl, rfl, rfl, rfl, rfl, trivial⟩ ?_
      refine nm_thn ?_
      refine ws_condN quandle_n32 quandle_n33 rfl rfl rfl rfl (fun hb32 => ?_) (fun hb32 => ?_)
      ·refine ws_seqN quandle_n34 quandle_n35 rfl rfl rfl ?_
       refine ws_region rfl ?_
       refine wla 0 1 rfl rfl rfl rfl rfl rfl rfl ?_
       refine wl_end rfl ?_
       refine nm_sub [(2, _)] ⟨rfl, trivial⟩ ?_
       refine nm_thn ?_
       refine ws_ret hC [_] rfl rfl ⟨rfl, trivial⟩ ?_
       exact ⟨_, rfl, (S4.pick [] [] (by decide) trivial), (congrArg (Value.int .i64) (quE_1 (fun h => by first | (have := h.1; have := h.2.1; omega) | (have := (h.2.2 a (by omega)).1; omega) | exact badQ_t hb32 (by omega) (fun x hx => by have := (h.2.2 a (by omega)).2 x (by omega); unfold q2 at this; omega))).symm)⟩
      ·refine ws_skip rfl ?_
       refine nm_blk ?_
       refine nm_sub [(0, _), (3, _), (18, _), (19, _), (20, _)] ⟨rfl, rfl, rfl, rfl, rfl, trivial⟩ ?_
       refine nm_thn ?_
       refine ws_region rfl ?_
       refine wlo 0 1 rfl rfl rfl (wo_run rfl rfl (run_add rfl rfl rfl (by first | omega | (simp only [lens]; omega))) ?_)
       refine wlm 1 2 rfl rfl rfl rfl rfl rfl rfl ?_
       refine wl_end rfl ?_
       refine nm_lp ?_
       intro ax_ hax_
       refine ⟨_, ?hq2m, ⟨a + 1, rfl, hax_.sub ⟨rfl, rfl, rfl, rfl, rfl, trivial⟩, S4.pick [0] [_] (by decide) ⟨rfl, trivial⟩, ?hq2f0, ?hq2f1⟩⟩
       case hq2f0 => omega
       case hq2f1 => (intro i hi; by_cases e : i = a; (subst e; exact ⟨by omega, fun x hx => by have := badQ_f hb32 (x := x) (by omega); unfold q2; omega⟩); exact hF i (by omega))
       case hq2m => omega
    ·replace hb21 := of_decide_eq_false hb21
     refine ws_exit rfl rfl ?_
     refine nm_sub [(0, _), (3, _)] ⟨rfl, rfl, trivial⟩ ?_
     refine nm_thn ?_
     refine ws_seqN quandle_n36 quandle_n37 rfl rfl rfl ?_
     refine ws_seqN quandle_n38 quandle_n39 rfl rfl rfl ?_
     have hQF : QuF q := ⟨by omega, by omega, fun i hi => hF i (by omega)⟩
     clear hF
     refine ws_region rfl ?_
     refine wlo 0 1 rfl rfl rfl (wo_run rfl rfl (run_load1 rfl rfl Try.underlying3 rfl (S3.boxc (i := 0) rfl rfl)) ?_)
     refine wlm 1 2 rfl rfl rfl rfl rfl rfl rfl ?_
     refine wl_end rfl ?_
     refine nm_thn ?_
     refine ws_blockN quandle_n40 2 rfl rfl rfl ?_
     refine ws_loopE (fun mx_ ax_ wx_ => ∃ (a : Nat), mx_ = q.length - a ∧ Env 109 [(0, .slice qA qv.length qc), (3, .pointer (some ⟨gb1, 0, none⟩)), (34, .int .i64 (qv.length : Int)), (35, .int .i64 (a : Int))] ax_ ∧ SH wx_ M X [Rs.box gb1 3 [.int .i64 (qv.length : Int)]] ∧ a ≤ q.length ∧ (∀ i, i < a → paQ q i)) rfl ?_ ?_
     ·intro ax_ hax_
      refine ⟨_, ⟨0, rfl, hax_.sub ⟨rfl, rfl, rfl, rfl, trivial⟩, S3.pick [0] [_] (by decide) ⟨rfl, trivial⟩, ?hq3f0, ?hq3f1⟩⟩
      case hq3f0 => omega
      case hq3f1 => (intro i hi; omega)
     ·rintro m2 a2 w5 ⟨a, rfl, he2, S5, ha, hA⟩
      clear S3
      refine ws_in he2 (c := quandle_n41) rfl ?_
      clear he2 a2
      refine ws_seqN quandle_n42 quandle_n43 rfl rfl rfl ?_
      refine ws_region rfl ?_
      refine wlo 0 1 rfl rfl rfl (wo_run rfl rfl (run_lss rfl rfl rfl) ?_)
      refine wl_end rfl ?_
      refine nm_thn ?_
      refine ws_seqN quandle_n44 quandle_n45 rfl rfl rfl ?_
      refine ws_condN quandle_n46 quandle_n47 rfl rfl rfl rfl (fun hb36 => ?_) (fun hb36 => ?_)
      ·replace hb36 := of_decide_eq_true hb36
       refine ws_skip rfl ?_
       refine nm_sub [(0, _), (3, _), (34, _), (35, _)] ⟨rfl, rfl, rfl, rfl, trivial⟩ ?_
       refine nm_thn ?_
       refine ws_seqN quandle_n48 quandle_n49 rfl rfl rfl ?_
       refine ws_blockN quandle_n50 3 rfl rfl rfl ?_
       refine ws_seqN quandle_n51 quandle_n52 rfl rfl rfl ?_
       refine ws_region rfl ?_
       refine wlm 0 1 rfl rfl rfl rfl rfl rfl rfl ?_
       refine wla 1 2 rfl rfl rfl rfl rfl rfl rfl ?_
       refine wl_end rfl ?_
       refine nm_sub [(0, _), (3, _), (34, _), (35, _), (6, _)] ⟨rfl, rfl, rfl, rfl, rfl, trivial⟩ ?_
       refine nm_thn ?_
       refine ws_seqN quandle_n53 quandle_n54 rfl rfl rfl ?_
       refine ws_region rfl ?_
       refine wlo 0 1 rfl rfl rfl (wo_run rfl rfl (run_buildA (l := [_, _, _, _]) (pl := [(0, 1), (1, 1), (2, 1), (3, 1)]) rfl rfl Try.underlying147 zr147 sz4 rfl rfl rfl) ?_)
       refine wlo 1 2 rfl rfl rfl (wo_alloc (l := [_, _, _, _]) rfl rfl rfl zr147 rfl S5 ?_)
       intro gb2 w6 S6; clear S5
       refine wlo 2 3 rfl rfl rfl (wo_storeB (i := 0) (us := [_, _, _, _]) (l' := [_, _, _, _]) (H' := [_, _]) rfl rfl S6 rfl rfl rfl rfl sz147 rfl rfl rfl rfl ?_)
       intro w7 S7; clear S6
       refine wl_end rfl ?_
       refine nm_sub [(0, _), (3, _), (34, _), (35, _), (6, _), (7, _)] ⟨rfl, rfl, rfl, rfl, rfl, rfl, trivial⟩ ?_
       refine nm_thn ?_
       refine ws_seqN quandle_n55 quandle_n56 rfl rfl rfl ?_
       refine ws_seqN quandle_n57 quandle_n58 rfl rfl rfl ?_
       refine ws_region rfl ?_
       refine wlo 0 1 rfl rfl rfl (wo_run rfl rfl (run_load1 rfl rfl Try.underlying3 rfl (S7.boxc (i := 1) rfl rfl)) ?_)
       refine wlm 1 2 rfl rfl rfl rfl rfl rfl rfl ?_
       refine wl_end rfl ?_
       refine nm_thn ?_
       refine ws_blockN quandle_n59 4 rfl rfl rfl ?_
       refine ws_loopE (fun mx_ ax_ wx_ => ∃ (b : Nat) (h : Nat → Bool), mx_ = q.length - b ∧ Env 109 [(0, .slice qA qv.length qc), (3, .pointer (some ⟨gb1, 0, none⟩)), (34, .int .i64 (qv.length : Int)), (35, .int .i64 (a : Int)), (6, .int .i64 (a : Int)), (7, .pointer (some ⟨gb2, 0, none⟩)), (39, .int .i64 (qv.length : Int)), (40, .int .i64 (b : Int))] ax_ ∧ SH wx_ M X [Rs.box gb2 147 [.bool (h 0), .bool (h 1), .bool (h 2), .bool (h 3)], Rs.box gb1 3 [.int .i64 (qv.length : Int)]] ∧ b ≤ q.length ∧ (∀ i, i < b → (∀ x, x < i → q2 q x a ≠ q2 q i a) ∧ ∀ c, c < q.length → dstQ q a i c) ∧ HitQ q a b h) rfl ?_ ?_
       ·intro ax_ hax_
        refine ⟨_, ⟨0, (fun _ => false), rfl, hax_.sub ⟨rfl, rfl, rfl, rfl, rfl, rfl, rfl, rfl, trivial⟩, S7.pick [0, 1] [_, _] (by decide) ⟨rfl, rfl, trivial⟩, ?hq4f0, ?hq4f1, ?hq4f2⟩⟩
        case hq4f0 => omega
        case hq4f1 => (intro i hi; omega)
        case hq4f2 => exact HitQ.zero q a
       ·rintro m3 a3 w8 ⟨b, h, rfl, he3, S8, hb, hB, hH⟩
        clear S7
        refine ws_in he3 (c := quandle_n60) rfl ?_
        clear he3 a3
        refine ws_seqN quandle_n61 quandle_n62 rfl rfl rfl ?_
        refine ws_region rfl ?_
        refine wlo 0 1 rfl rfl rfl (wo_run rfl rfl (run_lss rfl rfl rfl) ?_)
        refine wl_end rfl ?_
        refine nm_thn ?_
        refine ws_seqN quandle_n63 quandle_n64 rfl rfl rfl ?_
        refine ws_condN quandle_n65 quandle_n66 rfl rfl rfl rfl (fun hb41 => ?_) (fun hb41 => ?_)
        ·replace hb41 := of_decide_eq_true hb41
         refine ws_skip rfl ?_
         refine nm_sub [(0, _), (3, _), (34, _), (35, _), (6, _), (7, _), (39, _), (40, _)] ⟨rfl, rfl, rfl, rfl, rfl, rfl, rfl, rfl, trivial⟩ ?_
         refine nm_thn ?_
         refine ws_seqN quandle_n67 quandle_n68 rfl rfl rfl ?_
         refine ws_blockN quandle_n69 5 rfl rfl rfl ?_
         refine ws_seqN quandle_n70 quandle_n71 rfl rfl rfl ?_
         refine ws_region rfl ?_
         refine wlm 0 1 rfl rfl rfl rfl rfl rfl rfl ?_
         refine wla 1 2 rfl rfl rfl rfl rfl rfl rfl ?_
         refine wl_end rfl ?_
         refine nm_sub [(0, _), (3, _), (34, _), (35, _), (6, _), (7, _), (39, _), (40, _), (8, _)] ⟨rfl, rfl, rfl, rfl, rfl, rfl, rfl, rfl, rfl, trivial⟩ ?_
         refine nm_thn ?_
         refine ws_seqN quandle_n72 quandle_n73 rfl rfl rfl ?_
         refine ws_seqN quandle_n74 quandle_n75 rfl rfl rfl ?_
         have hl26 := (hQF.2.2 a (by omega)).1
         have hl27 := (hQF.2.2 b (by omega)).1
         have hv4 := (hQF.2.2 b (by omega)).2 a (by omega)
         have hv1 := (hQF.2.2 a (by omega)).2 b (by omega)
         unfold q2 at hv4 hv1
         have hl1 := (hQF.2.2 (ga (ga q a) b).toNat (by omega)).1
         refine ws_region rfl ?_
         refine wlm 0 1 rfl rfl rfl rfl rfl rfl rfl ?_
         refine wlm 1 2 rfl rfl rfl rfl rfl rfl rfl ?_
         refine wlo 2 3 rfl rfl rfl (wo_run rfl rfl (run_indexM (C := (cdV 33)) b rfl rfl rfl sl34 (by first | rfl | omega) hq (by first | omega | (simp only [lens]; omega))) ?_)
         obtain ⟨hn2, hr2⟩ := hdq.2 b (by first | omega | (simp only [lens]; omega))
         have rmhr2 : (ga q b).length * 8 ≤ 140737488355328 := hr2.room
         refine wlo 3 4 rfl rfl rfl (wo_run rfl rfl (run_load1 rfl rfl Try.underlying33 rfl (hq.cell S8.um (i := b) (by first | omega | (simp only [lens]; omega)) 0 rfl (congrArg (fun n => some (Value.slice _ n _)) hn2))) ?_)
         refine wlm 4 5 rfl rfl rfl rfl rfl rfl rfl ?_
         refine wlo 5 6 rfl rfl rfl (wo_run rfl rfl (run_indexM (C := cdInt) a rfl rfl rfl sl33 (by first | rfl | omega) hr2 (by first | omega | (simp only [lens]; omega))) ?_)
         refine wlo 6 7 rfl rfl rfl (wo_run rfl rfl (run_load1 rfl rfl Try.underlying3 rfl (hr2.cell S8.um (i := a) (by first | omega | (simp only [lens]; omega)) 0 rfl rfl)) ?_)
         refine wlo 7 8 rfl rfl rfl (wo_run rfl rfl (run_indexP (e := (ga (ga q b) a).toNat) (k := 1) rfl rfl rfl Try.underlying147 sz4 (by first | rfl | omega) (by first | omega | (simp only [lens]; omega))) ?_)
         refine wlo 8 9 rfl rfl rfl (wo_run rfl rfl (run_load1 rfl rfl Try.underlying4 rfl (S8.boxc (i := 0) rfl (nth_fn4 (fun k => Value.bool (h k)) (by first | omega | (simp only [lens]; omega))))) ?_)
         refine wl_end rfl ?_
         refine nm_sub [(0, _), (3, _), (34, _), (35, _), (6, _), (7, _), (39, _), (40, _), (8, _), (51, _)] ⟨rfl, rfl, rfl, rfl, rfl, rfl, rfl, rfl, rfl, rfl, trivial⟩ ?_
         refine nm_thn ?_
         refine ws_condN quandle_n76 quandle_n77 rfl rfl rfl rfl (fun hb51 => ?_) (fun hb51 => ?_)
         ·refine ws_seqN quandle_n78 quandle_n79 rfl rfl rfl ?_
          refine ws_region rfl ?_
          refine wla 0 1 rfl rfl rfl rfl rfl rfl rfl ?_
          refine wl_end rfl ?_
          refine nm_sub [(2, _)] ⟨rfl, trivial⟩ ?_
          refine nm_thn ?_
          refine ws_ret hC [_] rfl rfl ⟨rfl, trivial⟩ ?_
          exact ⟨_, rfl, (S8.pick [] [] (by decide) trivial), (congrArg (Value.int .i64) (quE_6 hQF (fun h9 => by have h := (quK_iff hQF).1 h9 a (by omega); first | (have := h.2; unfold q2 at this; omega) | (have h9 := (h.1 b (by omega)).2 c (by omega); unfold dstQ q2 at h9; omega) | (obtain ⟨x, hx, h9⟩ := (hH _ (by omega)).1 hb51; exact (h.1 b (by omega)).1 x hx (by rw [h9]; unfold q2; omega)))).symm)⟩
         ·have hne : ∀ x, x < b → q2 q x a ≠ q2 q b a := fun x hx e9 => by have h9 := (hH _ (by omega)).2 ⟨x, hx, show q2 q x a = ((ga (ga q b) a).toNat : Int) by rw [e9]; unfold q2; omega⟩; rw [hb51] at h9; cases h9
          refine ws_skip rfl ?_
          refine nm_sub [(0, _), (3, _), (34, _), (35, _), (6, _), (7, _), (39, _), (40, _), (8, _)] ⟨rfl, rfl, rfl, rfl, rfl, rfl, rfl, rfl, rfl, trivial⟩ ?_
          refine nm_thn ?_
          refine ws_seqN quandle_n80 quandle_n81 rfl rfl rfl ?_
          refine ws_region rfl ?_
          refine wlm 0 1 rfl rfl rfl rfl rfl rfl rfl ?_
          refine wlm 1 2 rfl rfl rfl rfl rfl rfl rfl ?_
          refine wlo 2 3 rfl rfl rfl (wo_run rfl rfl (run_indexM (C := (cdV 33)) b rfl rfl rfl sl34 (by first | rfl | omega) hq (by first | omega | (simp only [lens]; omega))) ?_)
          obtain ⟨hn3, hr3⟩ := hdq.2 b (by first | omega | (simp only [lens]; omega))
          have rmhr3 : (ga q b).length * 8 ≤ 140737488355328 := hr3.room
          refine wlo 3 4 rfl rfl rfl (wo_run rfl rfl (run_load1 rfl rfl Try.underlying33 rfl (hq.cell S8.um (i := b) (by first | omega | (simp only [lens]; omega)) 0 rfl (congrArg (fun n => some (Value.slice _ n _)) hn3))) ?_)
          refine wlm 4 5 rfl rfl rfl rfl rfl rfl rfl ?_
          refine wlo 5 6 rfl rfl rfl (wo_run rfl rfl (run_indexM (C := cdInt) a rfl rfl rfl sl33 (by first | rfl | omega) hr3 (by first | omega | (simp only [lens]; omega))) ?_)
          refine wlo 6 7 rfl rfl rfl (wo_run rfl rfl (run_load1 rfl rfl Try.underlying3 rfl (hr3.cell S8.um (i := a) (by first | omega | (simp only [lens]; omega)) 0 rfl rfl)) ?_)
          refine wlo 7 8 rfl rfl rfl (wo_run rfl rfl (run_indexP (e := (ga (ga q b) a).toNat) (k := 1) rfl rfl rfl Try.underlying147 sz4 (by first | rfl | omega) (by first | omega | (simp only [lens]; omega))) ?_)
          refine wlo 8 9 rfl rfl rfl (wo_storeB (i := 0) (us := [_]) (l' := [.bool (upd h ((ga (ga q b) a).toNat) true 0), .bool (upd h ((ga (ga q b) a).toNat) true 1), .bool (upd h ((ga (ga q b) a).toNat) true 2), .bool (upd h ((ga (ga q b) a).toNat) true 3)]) (H' := [_, _]) rfl rfl S8 rfl rfl rfl rfl sz4 (ble_fn4 (fun k => Value.bool (h k)) _ (by first | omega | (simp only [lens]; omega))) rfl (spl_b4 h true (by first | omega | (simp only [lens]; omega))) rfl ?_)
          intro w9 S9; clear S8
          refine wl_end rfl ?_
          refine nm_sub [(0, _), (3, _), (34, _), (35, _), (6, _), (7, _), (39, _), (40, _), (8, _)] ⟨rfl, rfl, rfl, rfl, rfl, rfl, rfl, rfl, rfl, trivial⟩ ?_
          refine nm_thn ?_
          refine ws_seqN quandle_n82 quandle_n83 rfl rfl rfl ?_
          refine ws_region rfl ?_
          refine wlo 0 1 rfl rfl rfl (wo_run rfl rfl (run_load1 rfl rfl Try.underlying3 rfl (S9.boxc (i := 1) rfl rfl)) ?_)
          refine wlm 1 2 rfl rfl rfl rfl rfl rfl rfl ?_
          refine wl_end rfl ?_
          refine nm_thn ?_
          refine ws_blockN quandle_n84 6 rfl rfl rfl ?_
          refine ws_loopE (fun mx_ ax_ wx_ => ∃ (c : Nat), mx_ = q.length - c ∧ Env 109 [(0, .slice qA qv.length qc), (3, .pointer (some ⟨gb1, 0, none⟩)), (34, .int .i64 (qv.length : Int)), (35, .int .i64 (a : Int)), (6, .int .i64 (a : Int)), (7, .pointer (some ⟨gb2, 0, none⟩)), (39, .int .i64 (qv.length : Int)), (40, .int .i64 (b : Int)), (8, .int .i64 (b : Int)), (60, .int .i64 (qv.length : Int)), (61, .int .i64 (c : Int))] ax_ ∧ SH wx_ M X [Rs.box gb2 147 [.bool (upd h ((ga (ga q b) a).toNat) true 0), .bool (upd h ((ga (ga q b) a).toNat) true 1), .bool (upd h ((ga (ga q b) a).toNat) true 2), .bool (upd h ((ga (ga q b) a).toNat) true 3)], Rs.box gb1 3 [.int .i64 (qv.length : Int)]] ∧ c ≤ q.length ∧ (∀ i, i < c → dstQ q a b i)) rfl ?_ ?_
          ·intro ax_ hax_
           refine ⟨_, ⟨0, rfl, hax_.sub ⟨rfl, rfl, rfl, rfl, rfl, rfl, rfl, rfl, rfl, rfl, rfl, trivial⟩, S9.pick [0, 1] [_, _] (by decide) ⟨rfl, rfl, trivial⟩, ?hq5f0, ?hq5f1⟩⟩
           case hq5f0 => omega
           case hq5f1 => (intro i hi; omega)
          ·rintro m4 a4 w10 ⟨c, rfl, he4, S10, hc, hCc⟩
           clear S9
           refine ws_in he4 (c := quandle_n85) rfl ?_
           clear he4 a4
           refine ws_seqN quandle_n86 quandle_n87 rfl rfl rfl ?_
           refine ws_region rfl ?_
           refine wlo 0 1 rfl rfl rfl (wo_run rfl rfl (run_lss rfl rfl rfl) ?_)
           refine wl_end rfl ?_
           refine nm_thn ?_
           refine ws_seqN quandle_n88 quandle_n89 rfl rfl rfl ?_
           refine ws_condN quandle_n90 quandle_n91 rfl rfl rfl rfl (fun hb62 => ?_) (fun hb62 => ?_)
           ·replace hb62 := of_decide_eq_true hb62
            refine ws_skip rfl ?_
            refine nm_sub [(0, _), (3, _), (34, _), (35, _), (6, _), (7, _), (39, _), (40, _), (8, _), (60, _), (61, _)] ⟨rfl, rfl, rfl, rfl, rfl, rfl, rfl, rfl, rfl, rfl, rfl, trivial⟩ ?_
            refine nm_thn ?_
            refine ws_seqN quandle_n92 quandle_n93 rfl rfl rfl ?_
            refine ws_blockN quandle_n94 7 rfl rfl rfl ?_
            refine ws_seqN quandle_n95 quandle_n96 rfl rfl rfl ?_
            refine ws_region rfl ?_
            refine wlm 0 1 rfl rfl rfl rfl rfl rfl rfl ?_
            refine wla 1 2 rfl rfl rfl rfl rfl rfl rfl ?_
            refine wl_end rfl ?_
            refine nm_sub [(0, _), (3, _), (34, _), (35, _), (6, _), (7, _), (39, _), (40, _), (8, _), (60, _), (61, _), (9, _)] ⟨rfl, rfl, rfl, rfl, rfl, rfl, rfl, rfl, rfl, rfl, rfl, rfl, trivial⟩ ?_
            refine nm_thn ?_
            refine ws_seqN quandle_n97 quandle_n98 rfl rfl rfl ?_
            have hv2 := (hQF.2.2 a (by omega)).2 c (by omega)
            have hv3 := (hQF.2.2 b (by omega)).2 c (by omega)
            unfold q2 at hv2 hv3
            have hl2 := (hQF.2.2 (ga (ga q a) c).toNat (by omega)).1
            refine ws_draw rfl (by kernel_rfl) S10 33 rfl ?_
            clear S10
            refine wa_takeP (i := 0) (d := 64) 32 rfl (by kernel_rfl) (by kernel_rfl) (by kernel_rfl) rfl rfl rfl (fun w11 => run_move rfl rfl) ?_
            refine wa_takeP (i := 1) (d := 65) 31 rfl (by kernel_rfl) (by kernel_rfl) (by kernel_rfl) rfl rfl rfl (fun w12 => run_move rfl rfl) ?_
            refine wa_takeP (i := 2) (d := 66) 30 rfl (by kernel_rfl) (by kernel_rfl) (by kernel_rfl) rfl rfl rfl (fun w13 => run_move rfl rfl) ?_
            refine wa_take (i := 3) (d := 67) 29 rfl (by kernel_rfl) (by kernel_rfl) (by kernel_rfl) rfl rfl rfl (fun M4 N4 w14 hle8 S14 => .inl (run_indexM (C := (cdV 33)) a rfl rfl rfl sl34 (by first | rfl | omega) (hq.mono (Hp.un_mono hle8 S14.mx)) (by first | omega | (simp only [lens]; omega)))) ?_
            obtain ⟨hn4, hr4⟩ := hdq.2 a (by first | omega | (simp only [lens]; omega))
            have rmhr4 : (ga q a).length * 8 ≤ 140737488355328 := hr4.room
            refine wa_take (i := 4) (d := 68) 28 rfl (by kernel_rfl) (by kernel_rfl) (by kernel_rfl) rfl rfl rfl (fun M5 N5 w15 hle9 S15 => .inl (run_load1 rfl rfl Try.underlying33 rfl ((hq.mono (Hp.un_mono hle9 S15.mx)).cell S15.um (i := a) (by first | omega | (simp only [lens]; omega)) 0 rfl (congrArg (fun n => some (Value.slice _ n _)) hn4)))) ?_
            refine wa_takeP (i := 5) (d := 69) 27 rfl (by kernel_rfl) (by kernel_rfl) (by kernel_rfl) rfl rfl rfl (fun w16 => run_move rfl rfl) ?_
            refine wa_take (i := 6) (d := 70) 26 rfl (by kernel_rfl) (by kernel_rfl) (by kernel_rfl) rfl rfl rfl (fun M7 N7 w17 hle11 S17 => .inl (run_indexM (C := cdInt) b rfl rfl rfl sl33 (by first | rfl | omega) (hr4.mono (Hp.un_mono hle11 S17.mx)) (by first | omega | (simp only [lens]; omega)))) ?_
            refine wa_take (i := 7) (d := 71) 25 rfl (by kernel_rfl) (by kernel_rfl) (by kernel_rfl) rfl rfl rfl (fun M8 N8 w18 hle12 S18 => .inl (run_load1 rfl rfl Try.underlying3 rfl ((hr4.mono (Hp.un_mono hle12 S18.mx)).cell S18.um (i := b) (by first | omega | (simp only [lens]; omega)) 0 rfl rfl))) ?_
            refine wa_take (i := 8) (d := 72) 24 rfl (by kernel_rfl) (by kernel_rfl) (by kernel_rfl) rfl rfl rfl (fun M9 N9 w19 hle13 S19 => .inl (run_indexM (C := (cdV 33)) ((ga (ga q a) b).toNat) rfl rfl rfl sl34 (by first | rfl | omega) (hq.mono (Hp.un_mono hle13 S19.mx)) (by first | omega | (simp only [lens]; omega)))) ?_
            obtain ⟨hn5, hr5⟩ := hdq.2 ((ga (ga q a) b).toNat) (by first | omega | (simp only [lens]; omega))
            have rmhr5 : (ga q ((ga (ga q a) b).toNat)).length * 8 ≤ 140737488355328 := hr5.room
            refine wa_take (i := 9) (d := 73) 23 rfl (by kernel_rfl) (by kernel_rfl) (by kernel_rfl) rfl rfl rfl (fun M10 N10 w20 hle14 S20 => .inl (run_load1 rfl rfl Try.underlying33 rfl ((hq.mono (Hp.un_mono hle14 S20.mx)).cell S20.um (i := (ga (ga q a) b).toNat) (by first | omega | (simp only [lens]; omega)) 0 rfl (congrArg (fun n => some (Value.slice _ n _)) hn5)))) ?_
            refine wa_takeP (i := 10) (d := 74) 22 rfl (by kernel_rfl) (by kernel_rfl) (by kernel_rfl) rfl rfl rfl (fun w21 => run_move rfl rfl) ?_
            refine wa_take (i := 11) (d := 75) 21 rfl (by kernel_rfl) (by kernel_rfl) (by kernel_rfl) rfl rfl rfl (fun M12 N12 w22 hle16 S22 => .inl (run_indexM (C := cdInt) c rfl rfl rfl sl33 (by first | rfl | omega) (hr5.mono (Hp.un_mono hle16 S22.mx)) (by first | omega | (simp only [lens]; omega)))) ?_
            refine wa_take (i := 12) (d := 76) 20 rfl (by kernel_rfl) (by kernel_rfl) (by kernel_rfl) rfl rfl rfl (fun M13 N13 w23 hle17 S23 => .inl (run_load1 rfl rfl Try.underlying3 rfl ((hr5.mono (Hp.un_mono hle17 S23.mx)).cell S23.um (i := c) (by first | omega | (simp only [lens]; omega)) 0 rfl rfl))) ?_
            refine wa_takeP (i := 13) (d := 77) 19 rfl (by kernel_rfl) (by kernel_rfl) (by kernel_rfl) rfl rfl rfl (fun w24 => run_move rfl rfl) ?_
            refine wa_takeP (i := 14) (d := 78) 18 rfl (by kernel_rfl) (by kernel_rfl) (by kernel_rfl) rfl rfl rfl (fun w25 => run_move rfl rfl) ?_
            refine wa_takeP (i := 15) (d := 79) 17 rfl (by kernel_rfl) (by kernel_rfl) (by kernel_rfl) rfl rfl rfl (fun w26 => run_move rfl rfl) ?_
            refine wa_take (i := 16) (d := 80) 16 rfl (by kernel_rfl) (by kernel_rfl) (by kernel_rfl) rfl rfl rfl (fun M17 N17 w27 hle21 S27 => .inl (run_indexM (C := (cdV 33)) a rfl rfl rfl sl34 (by first | rfl | omega) (hq.mono (Hp.un_mono hle21 S27.mx)) (by first | omega | (simp only [lens]; omega)))) ?_
            obtain ⟨hn6, hr6⟩ := hdq.2 a (by first | omega | (simp only [lens]; omega))
            have rmhr6 : (ga q a).length * 8 ≤ 140737488355328 := hr6.room
            refine wa_take (i := 17) (d := 81) 15 rfl (by kernel_rfl) (by kernel_rfl) (by kernel_rfl) rfl rfl rfl (fun M18 N18 w28 hle22 S28 => .inl (run_load1 rfl rfl Try.underlying33 rfl ((hq.mono (Hp.un_mono hle22 S28.mx)).cell S28.um (i := a) (by first | omega | (simp only [lens]; omega)) 0 rfl (congrArg (fun n => some (Value.slice _ n _)) hn6)))) ?_
            refine wa_takeP (i := 18) (d := 82) 14 rfl (by kernel_rfl) (by kernel_rfl) (by kernel_rfl) rfl rfl rfl (fun w29 => run_move rfl rfl) ?_
            refine wa_take (i := 19) (d := 83) 13 rfl (by kernel_rfl) (by kernel_rfl) (by kernel_rfl) rfl rfl rfl (fun M20 N20 w30 hle24 S30 => .inl (run_indexM (C := cdInt) c rfl rfl rfl sl33 (by first | rfl | omega) (hr6.mono (Hp.un_mono hle24 S30.mx)) (by first | omega | (simp only [lens]; omega)))) ?_
            refine wa_take (i := 20) (d := 84) 12 rfl (by kernel_rfl) (by kernel_rfl) (by kernel_rfl) rfl rfl rfl (fun M21 N21 w31 hle25 S31 => .inl (run_load1 rfl rfl Try.underlying3 rfl ((hr6.mono (Hp.un_mono hle25 S31.mx)).cell S31.um (i := c) (by first | omega | (simp only [lens]; omega)) 0 rfl rfl))) ?_
            refine wa_take (i := 21) (d := 85) 11 rfl (by kernel_rfl) (by kernel_rfl) (by kernel_rfl) rfl rfl rfl (fun M22 N22 w32 hle26 S32 => .inl (run_indexM (C := (cdV 33)) ((ga (ga q a) c).toNat) rfl rfl rfl sl34 (by first | rfl | omega) (hq.mono (Hp.un_mono hle26 S32.mx)) (by first | omega | (simp only [lens]; omega)))) ?_
            obtain ⟨hn7, hr7⟩ := hdq.2 ((ga (ga q a) c).toNat) (by first | omega | (simp only [lens]; omega))
            have rmhr7 : (ga q ((ga (ga q a) c).toNat)).length * 8 ≤ 140737488355328 := hr7.room
            refine wa_take (i := 22) (d := 86) 10 rfl (by kernel_rfl) (by kernel_rfl) (by kernel_rfl) rfl rfl rfl (fun M23 N23 w33 hle27 S33 => .inl (run_load1 rfl rfl Try.underlying33 rfl ((hq.mono (Hp.un_mono hle27 S33.mx)).cell S33.um (i := (ga (ga q a) c).toNat) (by first | omega | (simp only [lens]; omega)) 0 rfl (congrArg (fun n => some (Value.slice _ n _)) hn7)))) ?_
            refine wa_takeP (i := 23) (d := 87) 9 rfl (by kernel_rfl) (by kernel_rfl) (by kernel_rfl) rfl rfl rfl (fun w34 => run_move rfl rfl) ?_
            refine wa_takeP (i := 24) (d := 88) 8 rfl (by kernel_rfl) (by kernel_rfl) (by kernel_rfl) rfl rfl rfl (fun w35 => run_move rfl rfl) ?_
            refine wa_take (i := 25) (d := 89) 7 rfl (by kernel_rfl) (by kernel_rfl) (by kernel_rfl) rfl rfl rfl (fun M26 N26 w36 hle30 S36 => .inl (run_indexM (C := (cdV 33)) b rfl rfl rfl sl34 (by first | rfl | omega) (hq.mono (Hp.un_mono hle30 S36.mx)) (by first | omega | (simp only [lens]; omega)))) ?_
            obtain ⟨hn8, hr8⟩ := hdq.2 b (by first | omega | (simp only [lens]; omega))
            have rmhr8 : (ga q b).length * 8 ≤ 140737488355328 := hr8.room
            refine wa_take (i := 26) (d := 90) 6 rfl (by kernel_rfl) (by kernel_rfl) (by kernel_rfl) rfl rfl rfl (fun M27 N27 w37 hle31 S37 => .inl (run_load1 rfl rfl Try.underlying33 rfl ((hq.mono (Hp.un_mono hle31 S37.mx)).cell S37.um (i := b) (by first | omega | (simp only [lens]; omega)) 0 rfl (congrArg (fun n => some (Value.slice _ n _)) hn8)))) ?_
            refine wa_takeP (i := 27) (d := 91) 5 rfl (by kernel_rfl) (by kernel_rfl) (by kernel_rfl) rfl rfl rfl (fun w38 => run_move rfl rfl) ?_
            refine wa_take (i := 28) (d := 92) 4 rfl (by kernel_rfl) (by kernel_rfl) (by kernel_rfl) rfl rfl rfl (fun M29 N29 w39 hle33 S39 => .inl (run_indexM (C := cdInt) c rfl rfl rfl sl33 (by first | rfl | omega) (hr8.mono (Hp.un_mono hle33 S39.mx)) (by first | omega | (simp only [lens]; omega)))) ?_
            refine wa_take (i := 29) (d := 93) 3 rfl (by kernel_rfl) (by kernel_rfl) (by kernel_rfl) rfl rfl rfl (fun M30 N30 w40 hle34 S40 => .inl (run_load1 rfl rfl Try.underlying3 rfl ((hr8.mono (Hp.un_mono hle34 S40.mx)).cell S40.um (i := c) (by first | omega | (simp only [lens]; omega)) 0 rfl rfl))) ?_
            refine wa_take (i := 30) (d := 94) 2 rfl (by kernel_rfl) (by kernel_rfl) (by kernel_rfl) rfl rfl rfl (fun M31 N31 w41 hle35 S41 => .inl (run_indexM (C := cdInt) ((ga (ga q b) c).toNat) rfl rfl rfl sl33 (by first | rfl | omega) (hr7.mono (Hp.un_mono hle35 S41.mx)) (by first | omega | (simp only [lens]; omega)))) ?_
            refine wa_take (i := 31) (d := 95) 1 rfl (by kernel_rfl) (by kernel_rfl) (by kernel_rfl) rfl rfl rfl (fun M32 N32 w42 hle36 S42 => .inl (run_load1 rfl rfl Try.underlying3 rfl ((hr7.mono (Hp.un_mono hle36 S42.mx)).cell S42.um (i := (ga (ga q b) c).toNat) (by first | omega | (simp only [lens]; omega)) 0 rfl rfl))) ?_
            refine wa_takeP (i := 32) (d := 96) 0 rfl (by kernel_rfl) (by kernel_rfl) (by kernel_rfl) rfl rfl rfl (fun w43 => run_neq rfl rfl rfl) ?_
            refine wa_end (by kernel_rfl) (fun w44 S44 => ?_)
            refine nm_sub [(0, _), (3, _), (34, _), (35, _), (6, _), (7, _), (39, _), (40, _), (8, _), (60, _), (61, _), (96, _)] ⟨rfl, rfl, rfl, rfl, rfl, rfl, rfl, rfl, rfl, rfl, rfl, rfl, trivial⟩ ?_
            refine nm_thn ?_
            refine ws_condN quandle_n99 quandle_n100 rfl rfl rfl rfl (fun hb96 => ?_) (fun hb96 => ?_)
            ·replace hb96 := of_decide_eq_true hb96
             refine ws_seqN quandle_n101 quandle_n102 rfl rfl rfl ?_
             refine ws_region rfl ?_
             refine wla 0 1 rfl rfl rfl rfl rfl rfl rfl ?_
             refine wl_end rfl ?_
             refine nm_sub [(2, _)] ⟨rfl, trivial⟩ ?_
             refine nm_thn ?_
             refine ws_ret hC [_] rfl rfl ⟨rfl, trivial⟩ ?_
             exact ⟨_, rfl, (S44.pick [] [] (by decide) trivial), (congrArg (Value.int .i64) (quE_6 hQF (fun h9 => by have h := (quK_iff hQF).1 h9 a (by omega); first | (have := h.2; unfold q2 at this; omega) | (have h9 := (h.1 b (by omega)).2 c (by omega); unfold dstQ q2 at h9; omega) | (obtain ⟨x, hx, h9⟩ := (hH _ (by omega)).1 hb51; exact (h.1 b (by omega)).1 x hx (by rw [h9]; unfold q2; omega)))).symm)⟩
            ·replace hb96 := of_decide_eq_false hb96
             refine ws_skip rfl ?_
             refine nm_blk ?_
             refine nm_sub [(0, _), (3, _), (34, _), (35, _), (6, _), (7, _), (39, _), (40, _), (8, _), (60, _), (61, _)] ⟨rfl, rfl, rfl, rfl, rfl, rfl, rfl, rfl, rfl, rfl, rfl, trivial⟩ ?_
             refine nm_thn ?_
             refine ws_region rfl ?_
             refine wlo 0 1 rfl rfl rfl (wo_run rfl rfl (run_add rfl rfl rfl (by first | omega | (simp only [lens]; omega))) ?_)
             refine wlm 1 2 rfl rfl rfl rfl rfl rfl rfl ?_
             refine wl_end rfl ?_
             refine nm_lp ?_
             intro ax_ hax_
             refine ⟨_, ?hq6m, ⟨c + 1, rfl, hax_.sub ⟨rfl, rfl, rfl, rfl, rfl, rfl, rfl, rfl, rfl, rfl, rfl, trivial⟩, S44.pick [0, 1] [_, _] (by decide) ⟨rfl, rfl, trivial⟩, ?hq6f0, ?hq6f1⟩⟩
             case hq6f0 => omega
             case hq6f1 => (intro i hi; by_cases e : i = c; (subst e; unfold dstQ q2; omega); exact hCc i (by omega))
             case hq6m => omega
           ·replace hb62 := of_decide_eq_false hb62
            refine ws_exit rfl rfl ?_
            refine nm_blk ?_
            refine nm_sub [(0, _), (3, _), (34, _), (35, _), (6, _), (7, _), (39, _), (40, _)] ⟨rfl, rfl, rfl, rfl, rfl, rfl, rfl, rfl, trivial⟩ ?_
            refine nm_thn ?_
            refine ws_region rfl ?_
            refine wlo 0 1 rfl rfl rfl (wo_run rfl rfl (run_add rfl rfl rfl (by first | omega | (simp only [lens]; omega))) ?_)
            refine wlm 1 2 rfl rfl rfl rfl rfl rfl rfl ?_
            refine wl_end rfl ?_
            refine nm_lp ?_
            intro ax_ hax_
            refine ⟨_, ?hq7m, ⟨b + 1, (upd h (ga (ga q b) a).toNat true), rfl, hax_.sub ⟨rfl, rfl, rfl, rfl, rfl, rfl, rfl, rfl, trivial⟩, S10.pick [0, 1] [_, _] (by decide) ⟨rfl, rfl, trivial⟩, ?hq7f0, ?hq7f1, ?hq7f2⟩⟩
            case hq7f0 => omega
            case hq7f1 => (intro i hi; by_cases e : i = b; (subst e; exact ⟨hne, fun c hc => hCc c (by omega)⟩); exact hB i (by omega))
            case hq7f2 => exact hH.put (by unfold q2; omega)
            case hq7m => omega
        ·replace hb41 := of_decide_eq_false hb41
         refine ws_exit rfl rfl ?_
         refine nm_sub [(0, _), (3, _), (34, _), (35, _), (6, _)] ⟨rfl, rfl, rfl, rfl, rfl, trivial⟩ ?_
         refine nm_thn ?_
         refine ws_seqN quandle_n103 quandle_n104 rfl rfl rfl ?_
         have hl26 := (hQF.2.2 a (by omega)).1
         refine ws_region rfl ?_
         refine wlm 0 1 rfl rfl rfl rfl rfl rfl rfl ?_
         refine wlm 1 2 rfl rfl rfl rfl rfl rfl rfl ?_
         refine wlo 2 3 rfl rfl rfl (wo_run rfl rfl (run_indexM (C := (cdV 33)) a rfl rfl rfl sl34 (by first | rfl | omega) hq (by first | omega | (simp only [lens]; omega))) ?_)
         obtain ⟨hn9, hr9⟩ := hdq.2 a (by first | omega | (simp only [lens]; omega))
         have rmhr9 : (ga q a).length * 8 ≤ 140737488355328 := hr9.room
         refine wlo 3 4 rfl rfl rfl (wo_run rfl rfl (run_load1 rfl rfl Try.underlying33 rfl (hq.cell S8.um (i := a) (by first | omega | (simp only [lens]; omega)) 0 rfl (congrArg (fun n => some (Value.slice _ n _)) hn9))) ?_)
         refine wlm 4 5 rfl rfl rfl rfl rfl rfl rfl ?_
         refine wlo 5 6 rfl rfl rfl (wo_run rfl rfl (run_indexM (C := cdInt) a rfl rfl rfl sl33 (by first | rfl | omega) hr9 (by first | omega | (simp only [lens]; omega))) ?_)
         refine wlo 6 7 rfl rfl rfl (wo_run rfl rfl (run_load1 rfl rfl Try.underlying3 rfl (hr9.cell S8.um (i := a) (by first | omega | (simp only [lens]; omega)) 0 rfl rfl)) ?_)
         refine wlm 7 8 rfl rfl rfl rfl rfl rfl rfl ?_
         refine wlo 8 9 rfl rfl rfl (wo_run rfl rfl (run_neq rfl rfl rfl) ?_)
         refine wl_end rfl ?_
         refine nm_sub [(0, _), (3, _), (34, _), (35, _), (107, _)] ⟨rfl, rfl, rfl, rfl, rfl, trivial⟩ ?_
         refine nm_thn ?_
         refine ws_condN quandle_n105 quandle_n106 rfl rfl rfl rfl (fun hb107 => ?_) (fun hb107 => ?_)
         ·replace hb107 := of_decide_eq_true hb107
          refine ws_seqN quandle_n107 quandle_n108 rfl rfl rfl ?_
          refine ws_region rfl ?_
          refine wla 0 1 rfl rfl rfl rfl rfl rfl rfl ?_
          refine wl_end rfl ?_
          refine nm_sub [(2, _)] ⟨rfl, trivial⟩ ?_
          refine nm_thn ?_
          refine ws_ret hC [_] rfl rfl ⟨rfl, trivial⟩ ?_
          exact ⟨_, rfl, (S8.pick [] [] (by decide) trivial), (congrArg (Value.int .i64) (quE_6 hQF (fun h9 => by have h := (quK_iff hQF).1 h9 a (by omega); first | (have := h.2; unfold q2 at this; omega) | (have h9 := (h.1 b (by omega)).2 c (by omega); unfold dstQ q2 at h9; omega) | (obtain ⟨x, hx, h9⟩ := (hH _ (by omega)).1 hb51; exact (h.1 b (by omega)).1 x hx (by rw [h9]; unfold q2; omega)))).symm)⟩
         ·replace hb107 := of_decide_eq_false hb107
          refine ws_skip rfl ?_
          refine nm_blk ?_
          refine nm_sub [(0, _), (3, _), (34, _), (35, _)] ⟨rfl, rfl, rfl, rfl, trivial⟩ ?_
          refine nm_thn ?_
          refine ws_region rfl ?_
          refine wlo 0 1 rfl rfl rfl (wo_run rfl rfl (run_add rfl rfl rfl (by first | omega | (simp only [lens]; omega))) ?_)
          refine wlm 1 2 rfl rfl rfl rfl rfl rfl rfl ?_
          refine wl_end rfl ?_
          refine nm_lp ?_
          intro ax_ hax_
          refine ⟨_, ?hq8m, ⟨a + 1, rfl, hax_.sub ⟨rfl, rfl, rfl, rfl, trivial⟩, S8.pick [1] [_] (by decide) ⟨rfl, trivial⟩, ?hq8f0, ?hq8f1⟩⟩
          case hq8f0 => omega
          case hq8f1 => (intro i hi; by_cases e : i = a; (subst e; exact ⟨fun b0 hb0 => hB b0 (by omega), by unfold q2; omega⟩); exact hA i (by omega))
          case hq8m => omega
      ·replace hb36 := of_decide_eq_false hb36
       refine ws_exit rfl rfl ?_
       refine nm_sub [] trivial ?_
       refine nm_thn ?_
       refine ws_seqN quandle_n109 quandle_n110 rfl rfl rfl ?_
       refine ws_region rfl ?_
       refine wla 0 1 rfl rfl rfl rfl rfl rfl rfl ?_
       refine wl_end rfl ?_
       refine nm_thn ?_
       refine ws_ret hC [_] rfl rfl ⟨rfl, trivial⟩ ?_
       exact ⟨_, rfl, (S5.pick [] [] (by decide) trivial), (congrArg (Value.int .i64) (quE_0 hQF ((quK_iff hQF).2 (fun i hi => hA i (by omega)))).symm)⟩
end Go.Proofs.Ytefkjfcncpmneaa
namespace Go.Proofs.Ytefkjfcncpmneaa
open Go.ChangeShapes Go.WideShapes Go.ChangeAt Go.RowKit
structure Rl where
 f : Int
 o : Int
 t : Int
instance : Inhabited Rl := ⟨⟨0, 0, 0⟩⟩
def cdRl : Cd Rl := ⟨fun x => [.int .i64 x.f, .int .i64 x.o, .int .i64 x.t], 3, 24, 101, ⟨0, 0, 0⟩, fun _ => rfl, by
 intro x u hu; simp at hu; rcases hu with rfl | rfl | rfl <;> rfl⟩
theorem sl97 : SlOf Try.prog 97 cdRl := ⟨.agg [.int .i64 0, .int .i64 0, .int .i64 0].toArray, Try.underlying97, by kernel_rfl, rfl, by decide, by decide⟩
def bkQ (q : List (List Int)) (t : Int) (o : Nat) : Nat := (List.range q.length).findIdx (fun a => decide (q2 q a o = t))
theorem bkQ_hit {q : List (List Int)} {t : Int} {o a : Nat} (ha : a < q.length) (h : q2 q a o = t) (h0 : ∀ j, j < a → q2 q j o ≠ t) : bkQ q t o = a := by
 unfold bkQ
 rw [List.findIdx_eq (by simpa using ha)]
 exact ⟨by simpa using h, fun j hj => by simpa using h0 j hj⟩
theorem cntQ_ex {q : List (List Int)} {b c n : Nat} (h : 1 ≤ cntQ q b c n) : ∃ i, i < n ∧ q2 q i b = (c : Int) := by
 induction n with
 | zero => exact absurd h (by show ¬ 1 ≤ 0; omega)
 | succ n ih =>
  by_cases e : q2 q n b = (c : Int)
  ·exact ⟨n, by omega, e⟩
  ·rw [cntQ, if_neg e] at h
   obtain ⟨i, hi, h2⟩ := ih (by omega)
   exact ⟨i, by omega, h2⟩
theorem qu_ex {q : List (List Int)} (hK : QuK q) {t : Int} {o : Nat} (ht : 0 ≤ t ∧ t < (q.length : Int)) (ho : o < q.length) : ∃ a, a < q.length ∧ q2 q a o = t := by
 have := ((hK o ho).2 t.toNat (by omega)).2
 obtain ⟨i, hi, h⟩ := cntQ_ex (q := q) (b := o) (c := t.toNat) (n := q.length) (by omega)
 exact ⟨i, hi, by omega⟩
theorem bkQ_spec {q : List (List Int)} (hK : QuK q) {t : Int} {o : Nat} (ht : 0 ≤ t ∧ t < (q.length : Int)) (ho : o < q.length) : bkQ q t o < q.length ∧ q2 q (bkQ q t o) o = t := by
 obtain ⟨a, ha, h⟩ := qu_ex hK ht ho
 have h1 : bkQ q t o < (List.range q.length).length := List.findIdx_lt_length_of_exists ⟨a, by simpa using ha, by simpa using h⟩
 rw [List.length_range] at h1
 refine ⟨h1, ?_⟩
 have h2 := List.findIdx_getElem (xs := List.range q.length) (p := fun a => decide (q2 q a o = t)) (w := by rw [List.length_range]; exact h1)
 unfold bkQ; simpa using h2
noncomputable def back_n0 : Code := Try.f112.body.getD .skip
noncomputable def back_n1 : Code := cL back_n0
noncomputable def back_n2 : Code := cR back_n0
noncomputable def back_n3 : Code := cL back_n2
noncomputable def back_n4 : Code := cR back_n2
noncomputable def back_n5 : Code := cL back_n3
noncomputable def back_n6 : Code := cR back_n3
noncomputable def back_n7 : Code := cL back_n6
noncomputable def back_n8 : Code := cL back_n7
noncomputable def back_n9 : Code := cL back_n8
noncomputable def back_n10 : Code := cR back_n8
noncomputable def back_n11 : Code := cL back_n10
noncomputable def back_n12 : Code := cR back_n10
noncomputable def back_n13 : Code := cL back_n11
noncomputable def back_n14 : Code := cR back_n11
noncomputable def back_n15 : Code := cL back_n12
noncomputable def back_n16 : Code := cR back_n12
noncomputable def back_n17 : Code := cL back_n15
noncomputable def back_n18 : Code := cL back_n17
noncomputable def back_n19 : Code := cR back_n17
noncomputable def back_n20 : Code := cL back_n19
noncomputable def back_n21 : Code := cR back_n19
noncomputable def back_n22 : Code := cL back_n21
noncomputable def back_n23 : Code := cR back_n21
noncomputable def back_n24 : Code := cL back_n22
noncomputable def back_n25 : Code := cR back_n22
noncomputable def back_n26 : Code := cL back_n4
noncomputable def back_n27 : Code := cR back_n4
set_option maxHeartbeats 1000000 in
set_option maxRecDepth 10000 in
theorem back_q {w : World} {M : Hp} {X : Fr} (q : List (List Int)) (rs : List Rl) {gk : Nat} {qA rA : Option Addr} {qc rc : Nat} {qv : List SlV} (t : Int) (ov : Int) (hkb : BxM (M.un X.h) gk 99 [.slice qA qv.length qc, .slice rA rs.length rc]) (hq : RdA (cdV 33) (M.un X.h) qA qc qv) (hdq : Rd2 cdInt (M.un X.h) qv q) (hru : RdA cdRl (M.un X.h) rA rc rs) (hQF : QuF q) (hQK : QuK q) (ht : 0 ≤ t ∧ t < (q.length : Int)) (hov : 0 ≤ ov ∧ ov < (q.length : Int)) (S : SH w M X []) : Cq Try.prog 112 [.pointer (some ⟨gk, 0, none⟩), .int .i64 t, .int .i64 ov] w M X (fun u => u = .int .i64 ((bkQ q t ov.toNat : Nat) : Int)) := by
 unfold Cq
 have hlq := hdq.1
 refine calls_in (b := back_n0) Try.func112 rfl Try.ntmps112 rfl (fun C hC => ?_)
 refine ws_sub [(0, _), (1, _), (2, _)] ⟨rfl, rfl, rfl, trivial⟩ ?_
 refine ws_seqN back_n1 back_n2 rfl rfl rfl ?_
 refine ws_region rfl ?_
 refine wla 0 1 rfl rfl rfl rfl rfl rfl rfl ?_
 refine wl_end rfl ?_
 refine nm_sub [(0, _), (1, _), (2, _)] ⟨rfl, rfl, rfl, trivial⟩ ?_
 refine nm_thn ?_
 refine ws_seqN back_n3 back_n4 rfl rfl rfl ?_
 refine ws_seqN back_n5 back_n6 rfl rfl rfl ?_
 refine ws_region rfl ?_
 refine wlm 0 1 rfl rfl rfl rfl rfl rfl rfl ?_
 refine wlo 1 2 rfl rfl rfl (wo_run rfl rfl (run_nilCheck rfl rfl) ?_)
 refine wlo 2 3 rfl rfl rfl (wo_run rfl rfl (run_fieldAddr rfl rfl Try.underlying99 rfl (ce34) (nf34)) ?_)
 refine wlo 3 4 rfl rfl rfl (wo_run rfl rfl (run_load1 rfl rfl Try.underlying34 rfl (hkb.cell S.um rfl)) ?_)
 refine wlo 4 5 rfl rfl rfl (wo_run rfl rfl (run_len rfl rfl rfl rfl rfl rfl Try.underlying34) ?_)
 refine wlm 5 6 rfl rfl rfl rfl rfl rfl rfl ?_
 refine wl_end rfl ?_
 refine nm_sub [(0, _), (1, _), (2, _), (12, _), (13, _)] ⟨rfl, rfl, rfl, rfl, rfl, trivial⟩ ?_
 refine nm_thn ?_
 refine ws_blockN back_n7 0 rfl rfl rfl ?_
 refine ws_loopE (fun mx_ ax_ wx_ => ∃ (a : Nat), mx_ = q.length - a ∧ Env 30 [(0, .pointer (some ⟨gk, 0, none⟩)), (1, .int .i64 t), (2, .int .i64 ov), (12, .int .i64 (qv.length : Int)), (13, .int .i64 (a : Int))] ax_ ∧ SH wx_ M X [] ∧ a ≤ q.length ∧ (∀ j, j < a → q2 q j ov.toNat ≠ t)) rfl ?_ ?_
 ·intro ax_ hax_
  refine ⟨_, ⟨0, rfl, hax_.sub ⟨rfl, rfl, rfl, rfl, rfl, trivial⟩, S.pick [] [] (by decide) trivial, ?hq1f0, ?hq1f1⟩⟩
  case hq1f0 => omega
  case hq1f1 => (intro j hj; omega)
 ·rintro m1 a1 w1 ⟨a, rfl, he1, S1, ha, hno⟩
  clear S
  refine ws_in he1 (c := back_n8) rfl ?_
  clear he1 a1
  refine ws_seqN back_n9 back_n10 rfl rfl rfl ?_
  refine ws_region rfl ?_
  refine wlo 0 1 rfl rfl rfl (wo_run rfl rfl (run_lss rfl rfl rfl) ?_)
  refine wl_end rfl ?_
  refine nm_thn ?_
  refine ws_seqN back_n11 back_n12 rfl rfl rfl ?_
  refine ws_condN back_n13 back_n14 rfl rfl rfl rfl (fun hb14 => ?_) (fun hb14 => ?_)
  ·replace hb14 := of_decide_eq_true hb14
   refine ws_skip rfl ?_
   refine nm_sub [(0, _), (1, _), (2, _), (12, _), (13, _)] ⟨rfl, rfl, rfl, rfl, rfl, trivial⟩ ?_
   refine nm_thn ?_
   refine ws_seqN back_n15 back_n16 rfl rfl rfl ?_
   refine ws_blockN back_n17 1 rfl rfl rfl ?_
   refine ws_seqN back_n18 back_n19 rfl rfl rfl ?_
   refine ws_region rfl ?_
   refine wlm 0 1 rfl rfl rfl rfl rfl rfl rfl ?_
   refine wla 1 2 rfl rfl rfl rfl rfl rfl rfl ?_
   refine wl_end rfl ?_
   refine nm_sub [(0, _), (1, _), (2, _), (12, _), (13, _), (7, _)] ⟨rfl, rfl, rfl, rfl, rfl, rfl, trivial⟩ ?_
   refine nm_thn ?_
   refine ws_seqN back_n20 back_n21 rfl rfl rfl ?_
   have hrl := (hQF.2.2 a (by omega)).1
   refine ws_region rfl ?_
   refine wlm 0 1 rfl rfl rfl rfl rfl rfl rfl ?_
   refine wlo 1 2 rfl rfl rfl (wo_run rfl rfl (run_nilCheck rfl rfl) ?_)
   refine wlo 2 3 rfl rfl rfl (wo_run rfl rfl (run_fieldAddr rfl rfl Try.underlying99 rfl (ce34) (nf34)) ?_)
   refine wlo 3 4 rfl rfl rfl (wo_run rfl rfl (run_load1 rfl rfl Try.underlying34 rfl (hkb.cell S1.um rfl)) ?_)
   refine wlm 4 5 rfl rfl rfl rfl rfl rfl rfl ?_
   refine wlo 5 6 rfl rfl rfl (wo_run rfl rfl (run_indexM (C := (cdV 33)) a rfl rfl rfl sl34 (by first | rfl | omega) hq (by first | omega | (simp only [lens]; omega))) ?_)
   obtain ⟨hn1, hr1⟩ := hdq.2 a (by first | omega | (simp only [lens]; omega))
   have rmhr1 : (ga q a).length * 8 ≤ 140737488355328 := hr1.room
   refine wlo 6 7 rfl rfl rfl (wo_run rfl rfl (run_load1 rfl rfl Try.underlying33 rfl (hq.cell S1.um (i := a) (by first | omega | (simp only [lens]; omega)) 0 rfl (congrArg (fun n => some (Value.slice _ n _)) hn1))) ?_)
   refine wlm 7 8 rfl rfl rfl rfl rfl rfl rfl ?_
   refine wlo 8 9 rfl rfl rfl (wo_run rfl rfl (run_indexM (C := cdInt) ov.toNat rfl rfl rfl sl33 (by first | rfl | omega) hr1 (by first | omega | (simp only [lens]; omega))) ?_)
   refine wlo 9 10 rfl rfl rfl (wo_run rfl rfl (run_load1 rfl rfl Try.underlying3 rfl (hr1.cell S1.um (i := ov.toNat) (by first | omega | (simp only [lens]; omega)) 0 rfl rfl)) ?_)
   refine wlm 10 11 rfl rfl rfl rfl rfl rfl rfl ?_
   refine wlo 11 12 rfl rfl rfl (wo_run rfl rfl (run_eql rfl rfl rfl) ?_)
   refine wl_end rfl ?_
   refine nm_sub [(0, _), (1, _), (2, _), (12, _), (13, _), (7, _), (27, _)] ⟨rfl, rfl, rfl, rfl, rfl, rfl, rfl, trivial⟩ ?_
   refine nm_thn ?_
   refine ws_condN back_n22 back_n23 rfl rfl rfl rfl (fun hb27 => ?_) (fun hb27 => ?_)
   ·replace hb27 := of_decide_eq_true hb27
    refine ws_seqN back_n24 back_n25 rfl rfl rfl ?_
    refine ws_region rfl ?_
    refine wlm 0 1 rfl rfl rfl rfl rfl rfl rfl ?_
    refine wla 1 2 rfl rfl rfl rfl rfl rfl rfl ?_
    refine wl_end rfl ?_
    refine nm_sub [(6, _)] ⟨rfl, trivial⟩ ?_
    refine nm_thn ?_
    refine ws_ret hC [_] rfl rfl ⟨rfl, trivial⟩ ?_
    exact ⟨_, rfl, (S1.pick [] [] (by decide) trivial), (congrArg (Value.int .i64) (by rw [bkQ_hit (by omega) hb27 hno]))⟩
   ·replace hb27 := of_decide_eq_false hb27
    refine ws_skip rfl ?_
    refine nm_blk ?_
    refine nm_sub [(0, _), (1, _), (2, _), (12, _), (13, _)] ⟨rfl, rfl, rfl, rfl, rfl, trivial⟩ ?_
    refine nm_thn ?_
    refine ws_region rfl ?_
    refine wlo 0 1 rfl rfl rfl (wo_run rfl rfl (run_add rfl rfl rfl (by first | omega | (simp only [lens]; omega))) ?_)
    refine wlm 1 2 rfl rfl rfl rfl rfl rfl rfl ?_
    refine wl_end rfl ?_
    refine nm_lp ?_
    intro ax_ hax_
    refine ⟨_, ?hq2m, ⟨a + 1, rfl, hax_.sub ⟨rfl, rfl, rfl, rfl, rfl, trivial⟩, S1.pick [] [] (by decide) trivial, ?hq2f0, ?hq2f1⟩⟩
    case hq2f0 => omega
    case hq2f1 => (intro j hj; by_cases e : j = a; (subst e; exact hb27); exact hno j (by omega))
    case hq2m => omega
  ·replace hb14 := of_decide_eq_false hb14
   refine ws_exit rfl rfl ?_
   refine nm_sub [] trivial ?_
   refine nm_thn ?_
   refine ws_seqN back_n26 back_n27 rfl rfl rfl ?_
   refine ws_region rfl ?_
   refine wla 0 1 rfl rfl rfl rfl rfl rfl rfl ?_
   refine wl_end rfl ?_
   refine nm_thn ?_
   refine ws_ret hC [_] rfl rfl ⟨rfl, trivial⟩ ?_
   exact ⟨_, rfl, (S1.pick [] [] (by decide) trivial), (absurd (qu_ex hQK ht (show ov.toNat < q.length by omega)) (fun ⟨j, hj, h9⟩ => hno j (by omega) h9))⟩
end Go.Proofs.Ytefkjfcncpmneaa
namespace Go.Proofs.Ytefkjfcncpmneaa
open Go.ChangeShapes Go.WideShapes Go.ChangeAt Go.RowKit
def gvC (cs : List Int) (p : Nat) (c : Int) : List Int := if ga cs p = -1 then cs.set p c else cs
def gvB (cs : List Int) (p : Nat) (c : Int) : Bool := decide (ga cs p = -1 ∨ ga cs p = c)
def gvA (cs : List Int) (p : Nat) (ag : Bool) : Bool := if ga cs p = -1 then true else ag
theorem gvC_len (cs : List Int) (p : Nat) (c : Int) : (gvC cs p c).length = cs.length := by
 unfold gvC; split <;> simp
noncomputable def give_n0 : Code := Try.f111.body.getD .skip
noncomputable def give_n1 : Code := cL give_n0
noncomputable def give_n2 : Code := cR give_n0
noncomputable def give_n3 : Code := cL give_n2
noncomputable def give_n4 : Code := cR give_n2
noncomputable def give_n5 : Code := cL give_n3
noncomputable def give_n6 : Code := cR give_n3
noncomputable def give_n7 : Code := cL give_n6
noncomputable def give_n8 : Code := cR give_n6
noncomputable def give_n9 : Code := cL give_n4
noncomputable def give_n10 : Code := cR give_n4
set_option maxHeartbeats 1000000 in
set_option maxRecDepth 10000 in
theorem give_b {w : World} {M : Hp} {X : Fr} (p : Nat) (c : Int) {gb12 : Nat} (ag : Bool) {gb11 : Nat} {vcs : Value} (cs : List Int) (hp : p < cs.length) (S : SH w M X [Rs.bun [Rs.box gb11 33 [vcs], Rs.row cdInt vcs cs, Rs.box gb12 4 [.bool ag]]]) : C1 Try.prog 111 [.int .i64 (p : Int), .int .i64 c, .pointer (some ⟨gb12, 0, none⟩), .pointer (some ⟨gb11, 0, none⟩)] w M X (fun u M' r' => M' = M ∧ u = .bool (gvB cs p c) ∧ r' = Rs.bun [Rs.box gb11 33 [vcs], Rs.row cdInt vcs (gvC cs p c), Rs.box gb12 4 [.bool (gvA cs p ag)]]) := by
 unfold C1
 replace S := S.unbun
 refine calls_in (b := give_n0) Try.func111 rfl Try.ntmps111 rfl (fun C hC => ?_)
 refine ws_sub [(0, _), (1, _), (2, _), (3, _)] ⟨rfl, rfl, rfl, rfl, trivial⟩ ?_
 refine ws_seqN give_n1 give_n2 rfl rfl rfl ?_
 refine ws_region rfl ?_
 refine wla 0 1 rfl rfl rfl rfl rfl rfl rfl ?_
 refine wl_end rfl ?_
 refine nm_sub [(0, _), (1, _), (2, _), (3, _)] ⟨rfl, rfl, rfl, rfl, trivial⟩ ?_
 refine nm_thn ?_
 refine ws_seqN give_n3 give_n4 rfl rfl rfl ?_
 refine ws_seqN give_n5 give_n6 rfl rfl rfl ?_
 refine ws_region rfl ?_
 refine wlo 0 1 rfl rfl rfl (wo_run rfl rfl (run_load1 rfl rfl Try.underlying33 rfl (S.boxc (i := 0) rfl rfl)) ?_)
 refine wlm 1 2 rfl rfl rfl rfl rfl rfl rfl ?_
 refine wlo 2 3 rfl rfl rfl (wo_run rfl rfl (run_indexR (C := cdInt) (i := 1) p rfl rfl rfl sl33 S rfl (by first | rfl | omega) (by first | omega | (simp only [lens]; omega))) ?_)
 refine wlo 3 4 rfl rfl rfl (wo_run rfl rfl (run_load1 rfl rfl Try.underlying3 rfl (S.rowc (i := 1) (e := p) (j := 0) rfl (by first | omega | (simp only [lens]; omega)) rfl rfl)) ?_)
 refine wlo 4 5 rfl rfl rfl (wo_run rfl rfl (run_eql rfl rfl rfl) ?_)
 refine wl_end rfl ?_
 refine nm_sub [(0, _), (1, _), (2, _), (3, _), (12, _)] ⟨rfl, rfl, rfl, rfl, rfl, trivial⟩ ?_
 refine nm_thn ?_
 refine ws_condN give_n7 give_n8 rfl rfl rfl rfl (fun hb12 => ?_) (fun hb12 => ?_)
 ·replace hb12 := of_decide_eq_true hb12
  refine ws_region rfl ?_
  refine wlo 0 1 rfl rfl rfl (wo_run rfl rfl (run_load1 rfl rfl Try.underlying33 rfl (S.boxc (i := 0) rfl rfl)) ?_)
  refine wlm 1 2 rfl rfl rfl rfl rfl rfl rfl ?_
  refine wlm 2 3 rfl rfl rfl rfl rfl rfl rfl ?_
  refine wlm 3 4 rfl rfl rfl rfl rfl rfl rfl ?_
  refine wlo 4 5 rfl rfl rfl (wo_run rfl rfl (run_indexR (C := cdInt) (i := 1) p rfl rfl rfl sl33 S rfl (by first | rfl | omega) (by first | omega | (simp only [lens]; omega))) ?_)
  refine wlo 5 6 rfl rfl rfl (wo_storeR (C := cdInt) (i := 1) (e := p) (j := 0) (us := [_]) (H' := [_, _, _]) c rfl rfl S rfl (by first | omega | (simp only [lens]; omega)) rfl rfl rfl sz3 rfl rfl rfl rfl ?_)
  intro w1 S1; clear S
  refine wlo 6 7 rfl rfl rfl (wo_run rfl rfl (run_nilCheck rfl rfl) ?_)
  refine wlo 7 8 rfl rfl rfl (wo_storeB (i := 2) (us := [_]) (l' := [_]) (H' := [_, _, _]) rfl rfl S1 rfl rfl rfl rfl sz4 rfl rfl rfl rfl ?_)
  intro w2 S2; clear S1
  refine wl_end rfl ?_
  refine nm_sub [(0, _), (1, _), (3, _)] ⟨rfl, rfl, rfl, trivial⟩ ?_
  refine nm_thn ?_
  refine ws_seqN give_n9 give_n10 rfl rfl rfl ?_
  refine ws_region rfl ?_
  refine wlo 0 1 rfl rfl rfl (wo_run rfl rfl (run_load1 rfl rfl Try.underlying33 rfl (S2.boxc (i := 0) rfl rfl)) ?_)
  refine wlm 1 2 rfl rfl rfl rfl rfl rfl rfl ?_
  refine wlo 2 3 rfl rfl rfl (wo_run rfl rfl (run_indexR (C := cdInt) (i := 1) p rfl rfl rfl sl33 S2 rfl (by first | rfl | omega) (by first | omega | (simp only [lens]; omega))) ?_)
  refine wlo 3 4 rfl rfl rfl (wo_run rfl rfl (run_load1 rfl rfl Try.underlying3 rfl (S2.rowc (i := 1) (e := p) (j := 0) rfl (by first | omega | (simp only [lens]; omega)) rfl rfl)) ?_)
  refine wlm 4 5 rfl rfl rfl rfl rfl rfl rfl ?_
  refine wlo 5 6 rfl rfl rfl (wo_run rfl rfl (run_eql rfl rfl rfl) ?_)
  refine wla 6 7 rfl rfl rfl rfl rfl rfl rfl ?_
  refine wl_end rfl ?_
  refine nm_sub [(7, _)] ⟨rfl, trivial⟩ ?_
  refine nm_thn ?_
  refine ws_ret hC [_] rfl rfl ⟨rfl, trivial⟩ ?_
  refine ⟨_, rfl, _, _, Hp.le_refl _, (S2.pick [0, 1, 2] [_, _, _] (by decide) ⟨rfl, rfl, rfl, trivial⟩).bun, ?_⟩
  have e1 : gvC cs p c = cs.set p c := by unfold gvC; rw [if_pos hb12]
  have e2 : gvA cs p ag = true := by unfold gvA; rw [if_pos hb12]
  have e3 : gvB cs p c = true := by unfold gvB; rw [decide_eq_true_iff]; exact .inl hb12
  have e4 : ga (cs.set p c) p = c := by rw [ga_set _ _ _ _ hp, if_pos rfl]
  rw [e1, e2, e3]
  exact ⟨rfl, by show Value.bool _ = _; rw [e4]; simp, rfl⟩
 ·replace hb12 := of_decide_eq_false hb12
  refine ws_skip rfl ?_
  refine nm_sub [(0, _), (1, _), (3, _)] ⟨rfl, rfl, rfl, trivial⟩ ?_
  refine nm_thn ?_
  refine ws_seqN give_n9 give_n10 rfl rfl rfl ?_
  refine ws_region rfl ?_
  refine wlo 0 1 rfl rfl rfl (wo_run rfl rfl (run_load1 rfl rfl Try.underlying33 rfl (S.boxc (i := 0) rfl rfl)) ?_)
  refine wlm 1 2 rfl rfl rfl rfl rfl rfl rfl ?_
  refine wlo 2 3 rfl rfl rfl (wo_run rfl rfl (run_indexR (C := cdInt) (i := 1) p rfl rfl rfl sl33 S rfl (by first | rfl | omega) (by first | omega | (simp only [lens]; omega))) ?_)
  refine wlo 3 4 rfl rfl rfl (wo_run rfl rfl (run_load1 rfl rfl Try.underlying3 rfl (S.rowc (i := 1) (e := p) (j := 0) rfl (by first | omega | (simp only [lens]; omega)) rfl rfl)) ?_)
  refine wlm 4 5 rfl rfl rfl rfl rfl rfl rfl ?_
  refine wlo 5 6 rfl rfl rfl (wo_run rfl rfl (run_eql rfl rfl rfl) ?_)
  refine wla 6 7 rfl rfl rfl rfl rfl rfl rfl ?_
  refine wl_end rfl ?_
  refine nm_sub [(7, _)] ⟨rfl, trivial⟩ ?_
  refine nm_thn ?_
  refine ws_ret hC [_] rfl rfl ⟨rfl, trivial⟩ ?_
  refine ⟨_, rfl, _, _, Hp.le_refl _, (S.pick [0, 1, 2] [_, _, _] (by decide) ⟨rfl, rfl, rfl, trivial⟩).bun, ?_⟩
  have e1 : gvC cs p c = cs := by unfold gvC; rw [if_neg hb12]
  have e2 : gvA cs p ag = ag := by unfold gvA; rw [if_neg hb12]
  have e3 : gvB cs p c = decide (ga cs p = c) := by unfold gvB; rw [decide_eq_decide]; exact ⟨fun h => h.resolve_left hb12, .inr⟩
  rw [e1, e2, e3]
  exact ⟨rfl, rfl, rfl⟩
end Go.Proofs.Ytefkjfcncpmneaa
namespace Go.Proofs.Ytefkjfcncpmneaa
open Go.ChangeShapes Go.WideShapes Go.ChangeAt Go.RowKit
def SolQ (q : List (List Int)) (rs : List Rl) (m : Nat) (g : List Int) : Prop := g.length = m ∧ (∀ i, i < m → 0 ≤ ga g i ∧ ga g i < (q.length : Int)) ∧ ∀ i, i < rs.length → q2 q (ga g (ga rs i).f.toNat).toNat (ga g (ga rs i).o.toNat).toNat = ga g (ga rs i).t.toNat
def ExtQ (cs g : List Int) : Prop := ∀ i, i < cs.length → ga cs i ≠ -1 → ga g i = ga cs i
def RuV (rs : List Rl) (m : Nat) : Prop := ∀ i, i < rs.length → (0 ≤ (ga rs i).f ∧ (ga rs i).f < (m : Int)) ∧ (0 ≤ (ga rs i).o ∧ (ga rs i).o < (m : Int)) ∧ (0 ≤ (ga rs i).t ∧ (ga rs i).t < (m : Int))
def ColV (q : List (List Int)) (cs : List Int) : Prop := ∀ i, i < cs.length → -1 ≤ ga cs i ∧ ga cs i < (q.length : Int)
def FolI (q : List (List Int)) (rs : List Rl) (cs0 cs : List Int) : Prop := cs.length = cs0.length ∧ ColV q cs ∧ (∀ i, i < cs0.length → ga cs0 i ≠ -1 → ga cs i = ga cs0 i) ∧ ∀ g, SolQ q rs cs0.length g → ExtQ cs0 g → ExtQ cs g
def CloQ (q : List (List Int)) (r : Rl) (cs : List Int) : Prop := ga cs r.o.toNat = -1 ∨ ((ga cs r.f.toNat ≠ -1 → ga cs r.t.toNat = q2 q (ga cs r.f.toNat).toNat (ga cs r.o.toNat).toNat) ∧ (ga cs r.t.toNat ≠ -1 → ga cs r.f.toNat ≠ -1))
def nones (cs : List Int) : Nat := cs.countP (fun x => decide (x = -1))
theorem nones_set {cs : List Int} {p : Nat} {c : Int} (hp : p < cs.length) (h : ga cs p = -1) (hc : c ≠ -1) : nones (cs.set p c) + 1 = nones cs := by
 induction cs generalizing p with
 | nil => simp at hp
 | cons x cs ih =>
  cases p with
  | zero =>
   have hx : x = -1 := by simpa [ga] using h
   subst hx
   simp [nones, hc]
  | succ p =>
   have h2 := ih (p := p) (by simpa using hp) (by simpa [ga] using h)
   unfold nones at *
   rw [List.set_cons_succ, List.countP_cons, List.countP_cons]
   omega
theorem FolI.start {q : List (List Int)} {rs : List Rl} {cs : List Int} (h : ColV q cs) : FolI q rs cs cs := ⟨rfl, h, fun _ _ _ => rfl, fun _ _ h => h⟩
theorem FolI.give {q : List (List Int)} {rs : List Rl} {cs0 cs : List Int} (h : FolI q rs cs0 cs) {p : Nat} {c : Int} (hp : p < cs.length) (hc : 0 ≤ c ∧ c < (q.length : Int)) (hf : ∀ g, SolQ q rs cs0.length g → ExtQ cs g → ga g p = c) : FolI q rs cs0 (gvC cs p c) := by
 unfold gvC
 split
 ·rename_i e
  refine ⟨by rw [List.length_set]; exact h.1, fun i hi => ?_, fun i hi h0 => ?_, fun g hg hx i hi h1 => ?_⟩
  ·rw [List.length_set] at hi
   rw [ga_set _ _ _ _ hp]
   split
   ·omega
   ·exact h.2.1 i hi
  ·rw [ga_set _ _ _ _ hp]
   split
   ·rename_i e2; subst e2; have := h.2.2.1 _ hi h0; omega
   ·exact h.2.2.1 i hi h0
  ·rw [List.length_set] at hi
   rw [ga_set _ _ _ _ hp] at h1 ⊢
   have h2 := h.2.2.2 g hg hx
   split
   ·rename_i e2; subst e2; exact hf g hg h2
   ·rename_i e2; rw [if_neg e2] at h1; exact h2 i hi h1
 ·exact h
theorem FolI.bad {q : List (List Int)} {rs : List Rl} {cs0 cs : List Int} (h : FolI q rs cs0 cs) {p : Nat} {c : Int} (hp : p < cs.length) (hf : ∀ g, SolQ q rs cs0.length g → ExtQ cs g → ga g p = c) (hb : gvB cs p c = false) : ∀ g, SolQ q rs cs0.length g → ¬ ExtQ cs0 g := fun g hg hx => by
 have h2 := h.2.2.2 g hg hx
 unfold gvB at hb
 rw [decide_eq_false_iff_not] at hb
 have h3 := h2 p hp (fun e => hb (.inl e))
 have h4 := hf g hg h2
 exact hb (.inr (by rw [← h3, h4]))
theorem fwdQ {q : List (List Int)} {rs : List Rl} {m : Nat} {cs : List Int} {i : Nat} (hl : cs.length = m) (hR : RuV rs m) (hi : i < rs.length) (ho : ga cs (ga rs i).o.toNat ≠ -1) (hf : ga cs (ga rs i).f.toNat ≠ -1) : ∀ g, SolQ q rs m g → ExtQ cs g → ga g (ga rs i).t.toNat = q2 q (ga cs (ga rs i).f.toNat).toNat (ga cs (ga rs i).o.toNat).toNat := fun g hg hx => by
 obtain ⟨h1, h2, h3⟩ := hR i hi
 rw [← hg.2.2 i hi, hx _ (by omega) ho, hx _ (by omega) hf]
theorem bwdQ {q : List (List Int)} {rs : List Rl} {m : Nat} {cs : List Int} {i : Nat} (hF : QuF q) (hK : QuK q) (hC : ColV q cs) (hl : cs.length = m) (hR : RuV rs m) (hi : i < rs.length) (ho : ga cs (ga rs i).o.toNat ≠ -1) (ht : ga cs (ga rs i).t.toNat ≠ -1) : ∀ g, SolQ q rs m g → ExtQ cs g → ga g (ga rs i).f.toNat = ((bkQ q (ga cs (ga rs i).t.toNat) (ga cs (ga rs i).o.toNat).toNat : Nat) : Int) := fun g hg hx => by
 obtain ⟨h1, h2, h3⟩ := hR i hi
 have e := hg.2.2 i hi
 rw [hx _ (by omega) ho, hx _ (by omega) ht] at e
 have hov := hC (ga rs i).o.toNat (by omega)
 have htv := hC (ga rs i).t.toNat (by omega)
 have hgv := hg.2.1 (ga rs i).f.toNat (by omega)
 obtain ⟨hb1, hb2⟩ := bkQ_spec hK (t := ga cs (ga rs i).t.toNat) (o := (ga cs (ga rs i).o.toNat).toNat) (by omega) (by omega)
 have hp := ((quK_iff hF).1 hK (ga cs (ga rs i).o.toNat).toNat (by omega)).1
 rcases Nat.lt_trichotomy (ga g (ga rs i).f.toNat).toNat (bkQ q (ga cs (ga rs i).t.toNat) (ga cs (ga rs i).o.toNat).toNat) with h9 | h9 | h9
 ·exact absurd (e.trans hb2.symm) ((hp _ hb1).1 _ h9)
 ·omega
 ·exact absurd (hb2.trans e.symm) ((hp _ (by omega)).1 _ h9)
/-- How a round goes. -/
def PasI (cs1 cs : List Int) (ag : Bool) : Prop := cs.length = cs1.length ∧ (ag = true → nones cs < nones cs1) ∧ (ag = false → cs = cs1)
theorem PasI.give {cs1 cs : List Int} {ag : Bool} (h : PasI cs1 cs ag) {p : Nat} {c : Int} (hp : p < cs.length) (hc : c ≠ -1) : PasI cs1 (gvC cs p c) (gvA cs p ag) := by
 unfold gvC gvA
 split
 ·rename_i e
  refine ⟨by rw [List.length_set]; exact h.1, fun _ => ?_, fun h9 => by cases h9⟩
  have h1 := nones_set hp e hc
  cases ag with
  | true => have := h.2.1 rfl; omega
  | false => rw [h.2.2 rfl] at h1 ⊢; omega
 ·exact h
/-- What comes of it. -/
def FolR (q : List (List Int)) (rs : List Rl) (cs0 cs : List Int) (ok : Bool) : Prop := cs.length = cs0.length ∧ (ok = true → FolI q rs cs0 cs ∧ ∀ i, i < rs.length → CloQ q (ga rs i) cs) ∧ (ok = false → ∀ g, SolQ q rs cs0.length g → ¬ ExtQ cs0 g)
theorem CloQ.full {q : List (List Int)} {r : Rl} {cs : List Int} (h : CloQ q r cs) (ho : ga cs r.o.toNat ≠ -1) (hf : ga cs r.f.toNat ≠ -1) : q2 q (ga cs r.f.toNat).toNat (ga cs r.o.toNat).toNat = ga cs r.t.toNat := by
 rcases h with h | h
 ·exact absurd h ho
 ·exact (h.1 hf).symm
end Go.Proofs.Ytefkjfcncpmneaa
