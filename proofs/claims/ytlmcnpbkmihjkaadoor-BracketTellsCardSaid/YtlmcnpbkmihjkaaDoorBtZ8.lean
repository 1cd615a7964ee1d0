/- Part 8 of the proof of the law BracketTells: the walks through its functions and the plain laws that they need. -/
import Derived.Test.YtlmcnpbkmihjkaaDoorBtZ7
set_option linter.unusedSimpArgs false
set_option linter.unusedVariables false
namespace Go.Proofs.YtlmcnpbkmihjkaaDoor
open Go.ChangeShapes Go.WideShapes Go.ChangeAt Go.RowKit
def tmF (t : Tm) : List Value := [.int .i64 t.e, .int .i64 t.c]
def cdTm : Cd Tm := ⟨tmF, 2, 16, 45, ⟨0, 0⟩, fun _ => rfl, by
 intro x u hu
 simp [tmF] at hu
 rcases hu with rfl | rfl <;> rfl⟩
/-- A list of terms that may be handed in. -/
def okT (a : List Tm) (i : Nat) : Prop := (-1000 ≤ (ga a i).e ∧ (ga a i).e ≤ 1000) ∧ (-1000000 ≤ (ga a i).c ∧ (ga a i).c ≤ 1000000) ∧ (ga a i).c ≠ 0 ∧ (0 < i → (ga a ((i : Int) - 1).toNat).e < (ga a i).e)
instance (a : List Tm) (i : Nat) : Decidable (okT a i) := by unfold okT; infer_instance
def LsE (a : List Tm) (u : Value) (N : Hp) : Prop := ∃ A c, u = .slice A a.length c ∧ RdA cdTm N A c a
/-- A polynomial in form, as a list that lasts. -/
def PT (B : Nat) (p : Pol) (u : Value) (N : Hp) : Prop := ∃ A c l, u = .slice A l.length c ∧ RdA cdTm N A c l ∧ Can l ∧ Bd l B ∧ mk (pr l) = p
theorem put_eq {l : List Tm} {e c : Int} {k : Nat} (hk : k ≤ l.length) (hlt : ∀ j, j < k → (ga l j).e < e) (hc : c ≠ 0) (hend : k = l.length ∨ (k < l.length ∧ ¬ (ga l k).e < e)) :
  put l e c = l.take k ++ (if k < l.length ∧ (ga l k).e = e then (if wr ((ga l k).c + c) = 0 then [] else [⟨e, wr ((ga l k).c + c)⟩]) ++ l.drop (k + 1) else ⟨e, c⟩ :: l.drop k) := by
 induction l generalizing k with
 | nil =>
  obtain rfl : k = 0 := by simp at hk; exact hk
  simp [put, hc]
 | cons t l ih =>
  unfold put
  rw [if_neg hc]
  cases k with
  | zero =>
   have hend' : ¬ t.e < e := by
    rcases hend with h | h
    ·simp at h
    ·exact h.2
   rw [if_neg hend']
   by_cases he : t.e = e
   ·have h2 : 0 < (t :: l).length ∧ (ga (t :: l) 0).e = e := ⟨by simp, he⟩
    rw [if_pos he, if_pos h2]
    show (if wr (t.c + c) = 0 then l else ⟨e, wr (t.c + c)⟩ :: l) = [] ++ ((if wr (t.c + c) = 0 then [] else [⟨e, wr (t.c + c)⟩]) ++ l)
    split <;> rfl
   ·have h2 : ¬ (0 < (t :: l).length ∧ (ga (t :: l) 0).e = e) := fun h => he h.2
    rw [if_neg he, if_neg h2]; rfl
  | succ k =>
   have h0 : t.e < e := hlt 0 (by omega)
   rw [if_pos h0]
   simp only [List.length_cons] at hk hend
   have e1 : ga (t :: l) (k + 1) = ga l k := rfl
   rw [ih (k := k) (by omega) (fun j hj => hlt (j + 1) (by omega)) (by rw [e1] at hend; omega), e1]
   simp only [List.length_cons, List.take_succ_cons, List.drop_succ_cons, List.cons_append, Nat.add_lt_add_iff_right]
theorem sl25 : SlOf Tryd.prog 25 cdTm := ⟨.agg [.int .i64 0, .int .i64 0].toArray, Tryd.underlying25, by kernel_rfl, rfl, by decide, by decide⟩
noncomputable def sameTerms_n0 : Code := Tryd.f8.body.getD .skip
noncomputable def sameTerms_n1 : Code := cL sameTerms_n0
noncomputable def sameTerms_n2 : Code := cR sameTerms_n0
noncomputable def sameTerms_n3 : Code := cL sameTerms_n2
noncomputable def sameTerms_n4 : Code := cR sameTerms_n2
noncomputable def sameTerms_n5 : Code := cL sameTerms_n3
noncomputable def sameTerms_n6 : Code := cR sameTerms_n3
noncomputable def sameTerms_n7 : Code := cL sameTerms_n6
noncomputable def sameTerms_n8 : Code := cR sameTerms_n6
noncomputable def sameTerms_n9 : Code := cL sameTerms_n4
noncomputable def sameTerms_n10 : Code := cR sameTerms_n4
noncomputable def sameTerms_n11 : Code := cL sameTerms_n9
noncomputable def sameTerms_n12 : Code := cR sameTerms_n9
noncomputable def sameTerms_n13 : Code := cL sameTerms_n12
noncomputable def sameTerms_n14 : Code := cL sameTerms_n13
noncomputable def sameTerms_n15 : Code := cL sameTerms_n14
noncomputable def sameTerms_n16 : Code := cR sameTerms_n14
noncomputable def sameTerms_n17 : Code := cL sameTerms_n15
noncomputable def sameTerms_n18 : Code := cR sameTerms_n15
noncomputable def sameTerms_n19 : Code := cL sameTerms_n18
noncomputable def sameTerms_n20 : Code := cR sameTerms_n18
noncomputable def sameTerms_n21 : Code := cL sameTerms_n16
noncomputable def sameTerms_n22 : Code := cR sameTerms_n16
noncomputable def sameTerms_n23 : Code := cL sameTerms_n21
noncomputable def sameTerms_n24 : Code := cL sameTerms_n23
noncomputable def sameTerms_n25 : Code := cR sameTerms_n23
noncomputable def sameTerms_n26 : Code := cL sameTerms_n25
noncomputable def sameTerms_n27 : Code := cR sameTerms_n25
noncomputable def sameTerms_n28 : Code := cL sameTerms_n10
noncomputable def sameTerms_n29 : Code := cR sameTerms_n10
set_option maxRecDepth 10000 in
theorem sameTerms_q {w : World} {M : Hp} {X : Fr} (p : List Tm) {pA : Option Addr} {pc : Nat} (q : List Tm) {qA : Option Addr} {qc : Nat} (hp : RdA cdTm (M.un X.h) pA pc p) (hq : RdA cdTm (M.un X.h) qA qc q) (he : p = q) (S : SH w M X []) : Cq Tryd.prog 8 [.slice pA p.length pc, .slice qA q.length qc] w M X (fun u => u = .bool true) := by
 unfold Cq
 have rmhp : p.length * 16 ≤ 140737488355328 := hp.room
 have rmhq : q.length * 16 ≤ 140737488355328 := hq.room
 have hle : p.length = q.length := by rw [he]
 refine calls_in (b := sameTerms_n0) Tryd.func8 rfl Tryd.ntmps8 rfl (fun C hC => ?_)
 refine ws_sub [(0, _), (1, _)] ⟨rfl, rfl, trivial⟩ ?_
 refine ws_seqN sameTerms_n1 sameTerms_n2 rfl rfl rfl ?_
 refine ws_region rfl ?_
 refine wla 0 1 rfl rfl rfl rfl rfl rfl rfl ?_
 refine wl_end rfl ?_
 refine nm_sub [(0, _), (1, _)] ⟨rfl, rfl, trivial⟩ ?_
 refine nm_thn ?_
 refine ws_seqN sameTerms_n3 sameTerms_n4 rfl rfl rfl ?_
 refine ws_seqN sameTerms_n5 sameTerms_n6 rfl rfl rfl ?_
 refine ws_region rfl ?_
 refine wlm 0 1 rfl rfl rfl rfl rfl rfl rfl ?_
 refine wlo 1 2 rfl rfl rfl (wo_run rfl rfl (run_len rfl rfl rfl rfl rfl rfl Tryd.underlying25) ?_)
 refine wlm 2 3 rfl rfl rfl rfl rfl rfl rfl ?_
 refine wlo 3 4 rfl rfl rfl (wo_run rfl rfl (run_len rfl rfl rfl rfl rfl rfl Tryd.underlying25) ?_)
 refine wlo 4 5 rfl rfl rfl (wo_run rfl rfl (run_neq rfl rfl rfl) ?_)
 refine wl_end rfl ?_
 refine nm_sub [(0, _), (1, _), (10, _)] ⟨rfl, rfl, rfl, trivial⟩ ?_
 refine nm_thn ?_
 refine ws_condN sameTerms_n7 sameTerms_n8 rfl rfl rfl rfl (fun hb10 => ?_) (fun hb10 => ?_)
 ·replace hb10 := of_decide_eq_true hb10
  exfalso; omega
 ·replace hb10 := of_decide_eq_false hb10
  refine ws_skip rfl ?_
  refine nm_sub [(0, _), (1, _)] ⟨rfl, rfl, trivial⟩ ?_
  refine nm_thn ?_
  refine ws_seqN sameTerms_n9 sameTerms_n10 rfl rfl rfl ?_
  refine ws_seqN sameTerms_n11 sameTerms_n12 rfl rfl rfl ?_
  refine ws_region rfl ?_
  refine wla 0 1 rfl rfl rfl rfl rfl rfl rfl ?_
  refine wl_end rfl ?_
  refine nm_thn ?_
  refine ws_blockN sameTerms_n13 0 rfl rfl rfl ?_
  refine ws_loopE (fun mx_ ax_ wx_ => ∃ (k : Nat), mx_ = p.length - k ∧ Env 26 [(0, .slice pA p.length pc), (1, .slice qA q.length qc), (5, .int .i64 (k : Int))] ax_ ∧ SH wx_ M X [] ∧ k ≤ p.length) rfl ?_ ?_
  ·intro ax_ hax_
   refine ⟨_, ⟨0, rfl, hax_.sub ⟨rfl, rfl, rfl, trivial⟩, S.pick [] [] (by decide) trivial, ?hq1f0⟩⟩
   case hq1f0 => omega
  ·rintro m1 a1 w1 ⟨k, rfl, he1, S1, hk⟩
   clear S
   refine ws_in he1 (c := sameTerms_n14) rfl ?_
   clear he1 a1
   refine ws_seqN sameTerms_n15 sameTerms_n16 rfl rfl rfl ?_
   refine ws_seqN sameTerms_n17 sameTerms_n18 rfl rfl rfl ?_
   refine ws_region rfl ?_
   refine wlm 0 1 rfl rfl rfl rfl rfl rfl rfl ?_
   refine wlm 1 2 rfl rfl rfl rfl rfl rfl rfl ?_
   refine wlo 2 3 rfl rfl rfl (wo_run rfl rfl (run_len rfl rfl rfl rfl rfl rfl Tryd.underlying25) ?_)
   refine wlo 3 4 rfl rfl rfl (wo_run rfl rfl (run_lss rfl rfl rfl) ?_)
   refine wl_end rfl ?_
   refine nm_sub [(0, _), (1, _), (5, _), (14, _)] ⟨rfl, rfl, rfl, rfl, trivial⟩ ?_
   refine nm_thn ?_
   refine ws_condN sameTerms_n19 sameTerms_n20 rfl rfl rfl rfl (fun hb14 => ?_) (fun hb14 => ?_)
   ·replace hb14 := of_decide_eq_true hb14
    refine ws_skip rfl ?_
    refine nm_sub [(0, _), (1, _), (5, _)] ⟨rfl, rfl, rfl, trivial⟩ ?_
    refine nm_thn ?_
    refine ws_seqN sameTerms_n21 sameTerms_n22 rfl rfl rfl ?_
    refine ws_blockN sameTerms_n23 1 rfl rfl rfl ?_
    refine ws_seqN sameTerms_n24 sameTerms_n25 rfl rfl rfl ?_
    refine ws_draw rfl (by kernel_rfl) S1 9 rfl ?_
    clear S1
    refine wa_takeP (i := 0) (d := 17) 8 rfl (by kernel_rfl) (by kernel_rfl) (by kernel_rfl) rfl rfl rfl (fun w2 => run_move rfl rfl) ?_
    refine wa_takeP (i := 1) (d := 18) 7 rfl (by kernel_rfl) (by kernel_rfl) (by kernel_rfl) rfl rfl rfl (fun w3 => run_move rfl rfl) ?_
    refine wa_take (i := 2) (d := 19) 6 rfl (by kernel_rfl) (by kernel_rfl) (by kernel_rfl) rfl rfl rfl (fun M3 N3 w4 hle4 S4 => .inl (run_indexM (C := cdTm) k rfl rfl rfl sl25 (by first | rfl | omega) (hp.mono (Hp.un_mono hle4 S4.mx)) (by first | omega | (simp only [lens]; omega)))) ?_
    refine wa_take (i := 3) (d := 20) 5 rfl (by kernel_rfl) (by kernel_rfl) (by kernel_rfl) rfl rfl rfl (fun M4 N4 w5 hle5 S5 => .inl (run_loadN (us := [_, _]) rfl rfl Tryd.underlying45 rfl sz45 ((hp.mono (Hp.un_mono hle5 S5.mx)).cellsAt S5.um (e := k) (by first | omega | (simp only [lens]; omega)) (j := 0) ⟨rfl, rfl, trivial⟩))) ?_
    refine wa_takeP (i := 4) (d := 21) 4 rfl (by kernel_rfl) (by kernel_rfl) (by kernel_rfl) rfl rfl rfl (fun w6 => run_move rfl rfl) ?_
    refine wa_takeP (i := 5) (d := 22) 3 rfl (by kernel_rfl) (by kernel_rfl) (by kernel_rfl) rfl rfl rfl (fun w7 => run_move rfl rfl) ?_
    refine wa_take (i := 6) (d := 23) 2 rfl (by kernel_rfl) (by kernel_rfl) (by kernel_rfl) rfl rfl rfl (fun M7 N7 w8 hle8 S8 => .inl (run_indexM (C := cdTm) k rfl rfl rfl sl25 (by first | rfl | omega) (hq.mono (Hp.un_mono hle8 S8.mx)) (by first | omega | (simp only [lens]; omega)))) ?_
    refine wa_take (i := 7) (d := 24) 1 rfl (by kernel_rfl) (by kernel_rfl) (by kernel_rfl) rfl rfl rfl (fun M8 N8 w9 hle9 S9 => .inl (run_loadN (us := [_, _]) rfl rfl Tryd.underlying45 rfl sz45 ((hq.mono (Hp.un_mono hle9 S9.mx)).cellsAt S9.um (e := k) (by first | omega | (simp only [lens]; omega)) (j := 0) ⟨rfl, rfl, trivial⟩))) ?_
    refine wa_takeP (i := 8) (d := 25) 0 rfl (by kernel_rfl) (by kernel_rfl) (by kernel_rfl) rfl rfl rfl (fun w10 => run_neSt (Q := ((ga p k).e) = ((ga q k).e) ∧ ((ga p k).c) = ((ga q k).c)) rfl rfl rfl se45 ⟨_, _, _, _, rfl, rfl, ⟨_, _, _, rfl, rfl, rfl⟩, rfl⟩) ?_
    refine wa_end (by kernel_rfl) (fun w11 S11 => ?_)
    refine nm_sub [(0, _), (1, _), (5, _), (25, _)] ⟨rfl, rfl, rfl, rfl, trivial⟩ ?_
    refine nm_thn ?_
    refine ws_condN sameTerms_n26 sameTerms_n27 rfl rfl rfl rfl (fun hb25 => ?_) (fun hb25 => ?_)
    ·replace hb25 := of_decide_eq_true hb25
     exfalso; exact hb25 (by rw [he]; exact ⟨rfl, rfl⟩)
    ·replace hb25 := of_decide_eq_false hb25
     refine ws_skip rfl ?_
     refine nm_blk ?_
     refine nm_sub [(0, _), (1, _), (5, _)] ⟨rfl, rfl, rfl, trivial⟩ ?_
     refine nm_thn ?_
     refine ws_region rfl ?_
     refine wlm 0 1 rfl rfl rfl rfl rfl rfl rfl ?_
     refine wlo 1 2 rfl rfl rfl (wo_run rfl rfl (run_add rfl rfl rfl (by first | omega | (simp only [lens]; omega))) ?_)
     refine wla 2 3 rfl rfl rfl rfl rfl rfl rfl ?_
     refine wl_end rfl ?_
     refine nm_lp ?_
     intro ax_ hax_
     refine ⟨_, ?hq2m, ⟨k + 1, rfl, hax_.sub ⟨rfl, rfl, rfl, trivial⟩, S11.pick [] [] (by decide) trivial, ?hq2f0⟩⟩
     case hq2f0 => omega
     case hq2m => omega
   ·replace hb14 := of_decide_eq_false hb14
    refine ws_exit rfl rfl ?_
    refine nm_sub [] trivial ?_
    refine nm_thn ?_
    refine ws_seqN sameTerms_n28 sameTerms_n29 rfl rfl rfl ?_
    refine ws_region rfl ?_
    refine wla 0 1 rfl rfl rfl rfl rfl rfl rfl ?_
    refine wl_end rfl ?_
    refine nm_thn ?_
    refine ws_ret hC [_] rfl rfl ⟨rfl, trivial⟩ ?_
    exact ⟨_, rfl, (S1.pick [] [] (by decide) trivial), rfl⟩
end Go.Proofs.YtlmcnpbkmihjkaaDoor
namespace Go.Proofs.YtlmcnpbkmihjkaaDoor
open Go.ChangeShapes Go.WideShapes Go.ChangeAt Go.RowKit
theorem pr_append (a b : List Tm) : pr (a ++ b) = pr a ++ pr b := List.map_append
theorem mk_take {b : List Tm} {i : Nat} (h : i < b.length) : mk (pr (b.take (i + 1))) = mk (pr (b.take i)) + mono (ga b i).e (ga b i).c := by
 rw [take_ga b i h, pr_append, mk_append]
 show mk (pr (b.take i)) + (mono (ga b i).e (ga b i).c + Pol.o) = _
 rw [Pol.add_zero]
theorem prod_step {acc b : List Tm} {p : Pol} {e c : Int} {j : Nat} (hj : j < b.length) (h : mk (pr acc) = p + mono e c * mk (pr (b.take j))) : mk (pr (put acc (e + (ga b j).e) (wr (c * (ga b j).c)))) = p + mono e c * mk (pr (b.take (j + 1))) := by
 rw [mk_put, h, mk_take hj, Pol.mul_add, mono_mul, Pol.add_assoc]
 exact congrArg _ (congrArg _ (mono_congr rfl (md_wr _)))
theorem bd_at {b : List Tm} {B : Nat} (h : Bd b B) {i : Nat} (hi : i < b.length) : -(B : Int) ≤ (ga b i).e ∧ (ga b i).e ≤ B := h _ (ga_mem hi)
theorem wr_neg_ne {c : Int} (h : c ≠ 0) (hc : wr c = c) : wr (-c) ≠ 0 := fun e => h (md_range hc (by
 have h1 : wr (-c) = wr 0 := by rw [e]; exact (wr_id (by omega)).symm
 have h2 := md_neg (wr_md.1 h1)
 rw [Int.neg_neg] at h2
 rw [h2]; rfl))
noncomputable def Put_n0 : Code := Tryd.f19.body.getD .skip
noncomputable def Put_n1 : Code := cL Put_n0
noncomputable def Put_n2 : Code := cR Put_n0
noncomputable def Put_n3 : Code := cL Put_n2
noncomputable def Put_n4 : Code := cR Put_n2
noncomputable def Put_n5 : Code := cL Put_n3
noncomputable def Put_n6 : Code := cR Put_n3
noncomputable def Put_n7 : Code := cL Put_n6
noncomputable def Put_n8 : Code := cR Put_n6
noncomputable def Put_n9 : Code := cL Put_n7
noncomputable def Put_n10 : Code := cR Put_n7
noncomputable def Put_n11 : Code := cL Put_n4
noncomputable def Put_n12 : Code := cR Put_n4
noncomputable def Put_n13 : Code := cL Put_n12
noncomputable def Put_n14 : Code := cR Put_n12
noncomputable def Put_n15 : Code := cL Put_n13
noncomputable def Put_n16 : Code := cL Put_n15
noncomputable def Put_n17 : Code := cL Put_n16
noncomputable def Put_n18 : Code := cR Put_n16
noncomputable def Put_n19 : Code := cL Put_n17
noncomputable def Put_n20 : Code := cR Put_n17
noncomputable def Put_n21 : Code := cL Put_n20
noncomputable def Put_n22 : Code := cR Put_n20
noncomputable def Put_n23 : Code := cL Put_n18
noncomputable def Put_n24 : Code := cL Put_n14
noncomputable def Put_n25 : Code := cR Put_n14
noncomputable def Put_n26 : Code := cL Put_n25
noncomputable def Put_n27 : Code := cR Put_n25
noncomputable def Put_n28 : Code := cL Put_n27
noncomputable def Put_n29 : Code := cR Put_n27
noncomputable def Put_n30 : Code := cL Put_n28
noncomputable def Put_n31 : Code := cR Put_n28
noncomputable def Put_n32 : Code := cL Put_n31
noncomputable def Put_n33 : Code := cR Put_n31
noncomputable def Put_n34 : Code := cL Put_n32
noncomputable def Put_n35 : Code := cR Put_n32
noncomputable def Put_n36 : Code := cL Put_n34
noncomputable def Put_n37 : Code := cR Put_n34
noncomputable def Put_n38 : Code := cL Put_n37
noncomputable def Put_n39 : Code := cR Put_n37
noncomputable def Put_n40 : Code := cL Put_n29
noncomputable def Put_n41 : Code := cR Put_n29
set_option maxRecDepth 10000 in
theorem Put_t {w : World} {M : Hp} {X : Fr} (l : List Tm) {lA : Option Addr} {lc : Nat} (e : Int) (c : Int) (hl : RdA cdTm M lA lc l) (hro : l.length + 1 ≤ 4398046511104) (S : SH w M X []) : Ct Tryd.prog 19 [.slice lA l.length lc, .int .i64 e, .int .i64 c] w M X (LsE (put l e c)) := by
 unfold Ct
 have rmhl : l.length * 16 ≤ 140737488355328 := hl.room
 refine calls_in (b := Put_n0) Tryd.func19 rfl Tryd.ntmps19 rfl (fun C hC => ?_)
 refine ws_sub [(0, _), (1, _), (2, _)] ⟨rfl, rfl, rfl, trivial⟩ ?_
 refine ws_seqN Put_n1 Put_n2 rfl rfl rfl ?_
 refine ws_region rfl ?_
 refine wla 0 1 rfl rfl rfl rfl rfl rfl rfl ?_
 refine wl_end rfl ?_
 refine nm_sub [(0, _), (1, _), (2, _)] ⟨rfl, rfl, rfl, trivial⟩ ?_
 refine nm_thn ?_
 refine ws_seqN Put_n3 Put_n4 rfl rfl rfl ?_
 refine ws_seqN Put_n5 Put_n6 rfl rfl rfl ?_
 refine ws_region rfl ?_
 refine wlm 0 1 rfl rfl rfl rfl rfl rfl rfl ?_
 refine wlo 1 2 rfl rfl rfl (wo_run rfl rfl (run_eql rfl rfl rfl) ?_)
 refine wl_end rfl ?_
 refine nm_sub [(0, _), (1, _), (2, _), (10, _)] ⟨rfl, rfl, rfl, rfl, trivial⟩ ?_
 refine nm_thn ?_
 refine ws_condN Put_n7 Put_n8 rfl rfl rfl rfl (fun hb10 => ?_) (fun hb10 => ?_)
 ·replace hb10 := of_decide_eq_true hb10
  refine ws_seqN Put_n9 Put_n10 rfl rfl rfl ?_
  refine ws_region rfl ?_
  refine wlm 0 1 rfl rfl rfl rfl rfl rfl rfl ?_
  refine wla 1 2 rfl rfl rfl rfl rfl rfl rfl ?_
  refine wl_end rfl ?_
  refine nm_sub [(6, _)] ⟨rfl, trivial⟩ ?_
  refine nm_thn ?_
  refine ws_ret hC [_] rfl rfl ⟨rfl, trivial⟩ ?_
  refine ⟨_, rfl, _, Hp.le_refl _, (S.pick [] [] (by decide) trivial), ?_⟩
  have e9 : put l e c = l := by rw [hb10]; exact put_zero l e
  rw [e9]
  exact ⟨_, _, rfl, hl⟩
 ·replace hb10 := of_decide_eq_false hb10
  refine ws_skip rfl ?_
  refine nm_sub [(0, _), (1, _), (2, _)] ⟨rfl, rfl, rfl, trivial⟩ ?_
  refine nm_thn ?_
  refine ws_seqN Put_n11 Put_n12 rfl rfl rfl ?_
  refine ws_region rfl ?_
  refine wla 0 1 rfl rfl rfl rfl rfl rfl rfl ?_
  refine wl_end rfl ?_
  refine nm_thn ?_
  refine ws_seqN Put_n13 Put_n14 rfl rfl rfl ?_
  refine ws_blockN Put_n15 0 rfl rfl rfl ?_
  refine ws_loopE (fun mx_ ax_ wx_ => ∃ (k : Nat), mx_ = l.length - k ∧ Env 78 [(0, .slice lA l.length lc), (1, .int .i64 e), (2, .int .i64 c), (7, .int .i64 (k : Int))] ax_ ∧ SH wx_ M X [] ∧ k ≤ l.length ∧ (∀ j, j < k → (ga l j).e < e)) rfl ?_ ?_
  ·intro ax_ hax_
   refine ⟨_, ⟨0, rfl, hax_.sub ⟨rfl, rfl, rfl, rfl, trivial⟩, S.pick [] [] (by decide) trivial, ?hq1f0, ?hq1f1⟩⟩
   case hq1f0 => omega
   case hq1f1 => (intro j hj; omega)
  ·rintro m1 a1 w1 ⟨k, rfl, he1, S1, hk, hlt⟩
   clear S
   refine ws_in he1 (c := Put_n16) rfl ?_
   clear he1 a1
   refine ws_seqN Put_n17 Put_n18 rfl rfl rfl ?_
   refine ws_seqN Put_n19 Put_n20 rfl rfl rfl ?_
   refine ws_region rfl ?_
   refine wlm 0 1 rfl rfl rfl rfl rfl rfl rfl ?_
   refine wlm 1 2 rfl rfl rfl rfl rfl rfl rfl ?_
   refine wlo 2 3 rfl rfl rfl (wo_run rfl rfl (run_len rfl rfl rfl rfl rfl rfl Tryd.underlying25) ?_)
   refine wlo 3 4 rfl rfl rfl (wo_run rfl rfl (run_lss rfl rfl rfl) ?_)
   refine wlm 4 5 rfl rfl rfl rfl rfl rfl rfl ?_
   refine wl_split (t := 16) rfl (fun hg16 => ?_) (fun hg16 => ?_)
   ·replace hg16 := of_decide_eq_true hg16
    refine wl_opG (k := 5) (k' := 6) rfl rfl ⟨_, _, _, rfl, rfl, rfl, rfl⟩ rfl (wo_run rfl rfl (run_move rfl rfl) ?_)
    refine wl_opG (k := 6) (k' := 7) rfl rfl ⟨_, _, _, rfl, rfl, rfl, rfl⟩ rfl (wo_run rfl rfl (run_move rfl rfl) ?_)
    refine wl_opG (k := 7) (k' := 8) rfl rfl ⟨_, _, _, rfl, rfl, rfl, rfl⟩ rfl (wo_run rfl rfl (run_indexM (C := cdTm) k rfl rfl rfl sl25 (by first | rfl | omega) hl (by first | omega | (simp only [lens]; omega))) ?_)
    refine wl_opG (k := 8) (k' := 9) rfl rfl ⟨_, _, _, rfl, rfl, rfl, rfl⟩ rfl (wo_run rfl rfl (run_fieldAddr rfl rfl Tryd.underlying45 rfl (ce3) (nf3)) ?_)
    refine wl_opG (k := 9) (k' := 10) rfl rfl ⟨_, _, _, rfl, rfl, rfl, rfl⟩ rfl (wo_run rfl rfl (run_load1 rfl rfl Tryd.underlying3 rfl (hl.cell S1.m (i := k) (by first | omega | (simp only [lens]; omega)) 0 rfl rfl)) ?_)
    refine wl_opG (k := 10) (k' := 11) rfl rfl ⟨_, _, _, rfl, rfl, rfl, rfl⟩ rfl (wo_run rfl rfl (run_move rfl rfl) ?_)
    refine wl_opG (k := 11) (k' := 12) rfl rfl ⟨_, _, _, rfl, rfl, rfl, rfl⟩ rfl (wo_run rfl rfl (run_lss rfl rfl rfl) ?_)
    refine wlo 12 13 rfl rfl rfl (wo_run rfl rfl (run_pickT rfl rfl rfl) ?_)
    refine wl_end rfl ?_
    refine nm_sub [(0, _), (1, _), (2, _), (7, _), (24, _)] ⟨rfl, rfl, rfl, rfl, rfl, trivial⟩ ?_
    refine nm_thn ?_
    refine ws_condN Put_n21 Put_n22 rfl rfl rfl rfl (fun hb24 => ?_) (fun hb24 => ?_)
    ·replace hb24 := of_decide_eq_true hb24
     refine ws_skip rfl ?_
     refine nm_sub [(0, _), (1, _), (2, _), (7, _)] ⟨rfl, rfl, rfl, rfl, trivial⟩ ?_
     refine nm_thn ?_
     refine ws_blockN Put_n23 1 rfl rfl rfl ?_
     refine ws_region rfl ?_
     refine wlm 0 1 rfl rfl rfl rfl rfl rfl rfl ?_
     refine wlo 1 2 rfl rfl rfl (wo_run rfl rfl (run_add rfl rfl rfl (by first | omega | (simp only [lens]; omega))) ?_)
     refine wla 2 3 rfl rfl rfl rfl rfl rfl rfl ?_
     refine wl_end rfl ?_
     refine nm_blk ?_
     refine nm_lp ?_
     intro ax_ hax_
     refine ⟨_, ?hq2m, ⟨k + 1, rfl, hax_.sub ⟨rfl, rfl, rfl, rfl, trivial⟩, S1.pick [] [] (by decide) trivial, ?hq2f0, ?hq2f1⟩⟩
     case hq2f0 => omega
     case hq2f1 => (intro j hj; by_cases h : j = k; (subst h; assumption); exact hlt j (by omega))
     case hq2m => omega
    ·replace hb24 := of_decide_eq_false hb24
     refine ws_exit rfl rfl ?_
     refine nm_sub [(0, _), (1, _), (2, _), (7, _)] ⟨rfl, rfl, rfl, rfl, trivial⟩ ?_
     refine nm_thn ?_
     refine ws_seqN Put_n24 Put_n25 rfl rfl rfl ?_
     refine ws_region rfl ?_
     refine wla 0 1 rfl rfl rfl rfl rfl rfl rfl ?_
     refine wl_end rfl ?_
     refine nm_thn ?_
     refine ws_seqN Put_n26 Put_n27 rfl rfl rfl ?_
     refine ws_region rfl ?_
     refine wlm 0 1 rfl rfl rfl rfl rfl rfl rfl ?_
     refine wlm 1 2 rfl rfl rfl rfl rfl rfl rfl ?_
     refine wlm 2 3 rfl rfl rfl rfl rfl rfl rfl ?_
     refine wlo 3 4 rfl rfl rfl (wo_sliceT (C := cdTm) k rfl rfl rfl rfl rfl sl25 (by first | rfl | omega) (by first | omega | (simp only [lens]; omega)) hl ?_)
     intro A1 c1 hr1
     have S2 := S1.nilrow cdTm; clear S1
     refine wlo 4 5 rfl rfl rfl (wo_appendM (C := cdTm) (i := 0) rfl rfl rfl rfl rfl rfl rfl rfl sl25 S2 rfl hr1 S2.m (by show (0 + _) * 16 ≤ _; rw [List.length_take]; omega) ?_)
     intro vr2 w2 S3; clear S2
     change SH _ _ _ [Rs.row cdTm vr2 (l.take k)] at S3
     refine wla 5 6 rfl rfl rfl rfl rfl rfl rfl ?_
     refine wl_end rfl ?_
     refine nm_sub [(0, _), (1, _), (2, _), (7, _), (8, _)] ⟨rfl, rfl, rfl, rfl, rfl, trivial⟩ ?_
     refine nm_thn ?_
     refine ws_seqN Put_n28 Put_n29 rfl rfl rfl ?_
     refine ws_seqN Put_n30 Put_n31 rfl rfl rfl ?_
     refine ws_region rfl ?_
     refine wlm 0 1 rfl rfl rfl rfl rfl rfl rfl ?_
     refine wlm 1 2 rfl rfl rfl rfl rfl rfl rfl ?_
     refine wlo 2 3 rfl rfl rfl (wo_run rfl rfl (run_len rfl rfl rfl rfl rfl rfl Tryd.underlying25) ?_)
     refine wlo 3 4 rfl rfl rfl (wo_run rfl rfl (run_lss rfl rfl rfl) ?_)
     refine wlm 4 5 rfl rfl rfl rfl rfl rfl rfl ?_
     refine wl_split (t := 36) rfl (fun hg36 => ?_) (fun hg36 => ?_)
     ·replace hg36 := of_decide_eq_true hg36
      refine wl_opG (k := 5) (k' := 6) rfl rfl ⟨_, _, _, rfl, rfl, rfl, rfl⟩ rfl (wo_run rfl rfl (run_move rfl rfl) ?_)
      refine wl_opG (k := 6) (k' := 7) rfl rfl ⟨_, _, _, rfl, rfl, rfl, rfl⟩ rfl (wo_run rfl rfl (run_move rfl rfl) ?_)
      refine wl_opG (k := 7) (k' := 8) rfl rfl ⟨_, _, _, rfl, rfl, rfl, rfl⟩ rfl (wo_run rfl rfl (run_indexM (C := cdTm) k rfl rfl rfl sl25 (by first | rfl | omega) hl (by first | omega | (simp only [lens]; omega))) ?_)
      refine wl_opG (k := 8) (k' := 9) rfl rfl ⟨_, _, _, rfl, rfl, rfl, rfl⟩ rfl (wo_run rfl rfl (run_fieldAddr rfl rfl Tryd.underlying45 rfl (ce3) (nf3)) ?_)
      refine wl_opG (k := 9) (k' := 10) rfl rfl ⟨_, _, _, rfl, rfl, rfl, rfl⟩ rfl (wo_run rfl rfl (run_load1 rfl rfl Tryd.underlying3 rfl (hl.cell S3.m (i := k) (by first | omega | (simp only [lens]; omega)) 0 rfl rfl)) ?_)
      refine wl_opG (k := 10) (k' := 11) rfl rfl ⟨_, _, _, rfl, rfl, rfl, rfl⟩ rfl (wo_run rfl rfl (run_move rfl rfl) ?_)
      refine wl_opG (k := 11) (k' := 12) rfl rfl ⟨_, _, _, rfl, rfl, rfl, rfl⟩ rfl (wo_run rfl rfl (run_eql rfl rfl rfl) ?_)
      refine wlo 12 13 rfl rfl rfl (wo_run rfl rfl (run_pickT rfl rfl rfl) ?_)
      refine wl_end rfl ?_
      refine nm_sub [(0, _), (1, _), (2, _), (7, _), (8, _), (44, _)] ⟨rfl, rfl, rfl, rfl, rfl, rfl, trivial⟩ ?_
      refine nm_thn ?_
      refine ws_condN Put_n32 Put_n33 rfl rfl rfl rfl (fun hb44 => ?_) (fun hb44 => ?_)
      ·replace hb44 := of_decide_eq_true hb44
       refine ws_seqN Put_n34 Put_n35 rfl rfl rfl ?_
       refine ws_seqN Put_n36 Put_n37 rfl rfl rfl ?_
       refine ws_region rfl ?_
       refine wlm 0 1 rfl rfl rfl rfl rfl rfl rfl ?_
       refine wlm 1 2 rfl rfl rfl rfl rfl rfl rfl ?_
       refine wlo 2 3 rfl rfl rfl (wo_run rfl rfl (run_indexM (C := cdTm) k rfl rfl rfl sl25 (by first | rfl | omega) hl (by first | omega | (simp only [lens]; omega))) ?_)
       refine wlo 3 4 rfl rfl rfl (wo_run rfl rfl (run_fieldAddr rfl rfl Tryd.underlying45 rfl (ce3) (nf3)) ?_)
       refine wlo 4 5 rfl rfl rfl (wo_run rfl rfl (run_load1 rfl rfl Tryd.underlying3 rfl (hl.cell S3.m (i := k) (by first | omega | (simp only [lens]; omega)) 1 rfl rfl)) ?_)
       refine wlm 5 6 rfl rfl rfl rfl rfl rfl rfl ?_
       refine wlo 6 7 rfl rfl rfl (wo_run rfl rfl (run_addW rfl rfl rfl) ?_)
       refine wlo 7 8 rfl rfl rfl (wo_run rfl rfl (run_neq rfl rfl rfl) ?_)
       refine wl_end rfl ?_
       refine nm_sub [(0, _), (1, _), (2, _), (7, _), (8, _), (52, _)] ⟨rfl, rfl, rfl, rfl, rfl, rfl, trivial⟩ ?_
       refine nm_thn ?_
       refine ws_condN Put_n38 Put_n39 rfl rfl rfl rfl (fun hb52 => ?_) (fun hb52 => ?_)
       ·replace hb52 := of_decide_eq_true hb52
        refine ws_region rfl ?_
        refine wlm 0 1 rfl rfl rfl rfl rfl rfl rfl ?_
        refine wlm 1 2 rfl rfl rfl rfl rfl rfl rfl ?_
        refine wlm 2 3 rfl rfl rfl rfl rfl rfl rfl ?_
        refine wlm 3 4 rfl rfl rfl rfl rfl rfl rfl ?_
        refine wlo 4 5 rfl rfl rfl (wo_run rfl rfl (run_indexM (C := cdTm) k rfl rfl rfl sl25 (by first | rfl | omega) hl (by first | omega | (simp only [lens]; omega))) ?_)
        refine wlo 5 6 rfl rfl rfl (wo_run rfl rfl (run_fieldAddr rfl rfl Tryd.underlying45 rfl (ce3) (nf3)) ?_)
        refine wlo 6 7 rfl rfl rfl (wo_run rfl rfl (run_load1 rfl rfl Tryd.underlying3 rfl (hl.cell S3.m (i := k) (by first | omega | (simp only [lens]; omega)) 1 rfl rfl)) ?_)
        refine wlm 7 8 rfl rfl rfl rfl rfl rfl rfl ?_
        refine wlo 8 9 rfl rfl rfl (wo_run rfl rfl (run_addW rfl rfl rfl) ?_)
        refine wlo 9 10 rfl rfl rfl (wo_run rfl rfl (run_build (l := [_, _]) rfl rfl st45 rfl rfl) ?_)
        refine wlo 10 11 rfl rfl rfl (wo_buildSlice1 (C := cdTm) (l := [_, _]) rfl rfl rfl rfl sl25 rfl rfl rfl rfl S3 ?_)
        intro gb1 w3 S4; clear S3
        refine wlo 11 12 rfl rfl rfl (wo_append1 (C := cdTm) (i := 1) (q := 0) (⟨e, wr (((ga l k).c) + c)⟩ : Tm) rfl rfl rfl rfl rfl rfl rfl rfl sl25 S4 rfl rfl rfl (by show (_ + 1) * 16 ≤ _; first | omega | (simp only [List.length_append, List.length_take, List.length_cons, List.length_nil, List.length_map]; omega)) ?_)
        intro vr3 w4 S5; clear S4
        have S6 := S5.pick [1] [_] (by decide) ⟨rfl, trivial⟩; clear S5
        refine wla 12 13 rfl rfl rfl rfl rfl rfl rfl ?_
        refine wl_end rfl ?_
        refine nm_sub [(0, _), (7, _), (8, _)] ⟨rfl, rfl, rfl, trivial⟩ ?_
        refine nm_thn ?_
        refine ws_region rfl ?_
        refine wlm 0 1 rfl rfl rfl rfl rfl rfl rfl ?_
        refine wlo 1 2 rfl rfl rfl (wo_run rfl rfl (run_add rfl rfl rfl (by first | omega | (simp only [lens]; omega))) ?_)
        refine wla 2 3 rfl rfl rfl rfl rfl rfl rfl ?_
        refine wl_end rfl ?_
        refine nm_sub [(0, _), (7, _), (8, _)] ⟨rfl, rfl, rfl, trivial⟩ ?_
        refine nm_thn ?_
        refine ws_seqN Put_n40 Put_n41 rfl rfl rfl ?_
        refine ws_region rfl ?_
        refine wlm 0 1 rfl rfl rfl rfl rfl rfl rfl ?_
        refine wlm 1 2 rfl rfl rfl rfl rfl rfl rfl ?_
        refine wlm 2 3 rfl rfl rfl rfl rfl rfl rfl ?_
        refine wlo 3 4 rfl rfl rfl (wo_sliceD (C := cdTm) (k + 1) rfl rfl rfl rfl rfl sl25 (by first | rfl | omega) (by first | omega | (simp only [lens]; omega)) hl ?_)
        intro A2 c2 hr2
        refine wlo 4 5 rfl rfl rfl (wo_appendM (C := cdTm) (i := 0) rfl rfl rfl rfl rfl rfl rfl rfl sl25 S6 rfl hr2 S6.m (by show (_ + _) * 16 ≤ _; simp only [List.length_append, List.length_take, List.length_drop, List.length_cons, List.length_nil]; omega) ?_)
        intro vr4 w5 S7; clear S6
        change SH _ _ _ [Rs.row cdTm vr4 (((l.take k) ++ [(⟨e, wr (((ga l k).c) + c)⟩ : Tm)]) ++ (l.drop (k + 1)))] at S7
        refine wla 5 6 rfl rfl rfl rfl rfl rfl rfl ?_
        refine wl_end rfl ?_
        refine nm_sub [(6, _)] ⟨rfl, trivial⟩ ?_
        refine nm_thn ?_
        obtain ⟨M1, hle2, S8, ⟨A3, c3, e1, hr3⟩⟩ := S7.pubrow (i := 0) (H' := [_]) rfl rfl (by have e1 : (l.take k).length = k := (by rw [List.length_take]; omega); have e2 := @List.length_drop _ k l; have e3 := @List.length_drop _ (k + 1) l; show _ * 16 ≤ _; simp only [List.length_append, List.length_cons, List.length_nil]; first | omega | (simp only [lens]; omega))
        clear S7; subst e1
        replace hl := hl.mono hle2
        replace hr1 := hr1.mono hle2
        replace hr2 := hr2.mono hle2
        refine ws_ret hC [_] rfl rfl ⟨rfl, trivial⟩ ?_
        refine ⟨_, rfl, _, hle2, (S8.pick [] [] (by decide) trivial), ?_⟩
        have hpe := put_eq (l := l) (e := e) (c := c) (k := k) (by omega) hlt hb10 (by omega)
        have e9 : put l e c = ((l.take k) ++ [(⟨e, wr (((ga l k).c) + c)⟩ : Tm)]) ++ (l.drop (k + 1)) := by
         rw [hpe]
         first
         | (exfalso; omega)
         | (rw [if_pos (show k < l.length ∧ (ga l k).e = e by omega)]; first | (rw [if_pos (show wr ((ga l k).c + c) = 0 by omega)]; simp) | (rw [if_neg (show ¬ wr ((ga l k).c + c) = 0 by omega)]; simp))
         | (rw [if_neg (show ¬ (k < l.length ∧ (ga l k).e = e) by omega)]; simp)
        rw [e9]
        exact ⟨_, _, rfl, hr3⟩
       ·replace hb52 := of_decide_eq_false hb52
        refine ws_skip rfl ?_
        refine nm_sub [(0, _), (7, _), (8, _)] ⟨rfl, rfl, rfl, trivial⟩ ?_
        refine nm_thn ?_
        refine ws_region rfl ?_
        refine wlm 0 1 rfl rfl rfl rfl rfl rfl rfl ?_
        refine wlo 1 2 rfl rfl rfl (wo_run rfl rfl (run_add rfl rfl rfl (by first | omega | (simp only [lens]; omega))) ?_)
        refine wla 2 3 rfl rfl rfl rfl rfl rfl rfl ?_
        refine wl_end rfl ?_
        refine nm_sub [(0, _), (7, _), (8, _)] ⟨rfl, rfl, rfl, trivial⟩ ?_
        refine nm_thn ?_
        refine ws_seqN Put_n40 Put_n41 rfl rfl rfl ?_
        refine ws_region rfl ?_
        refine wlm 0 1 rfl rfl rfl rfl rfl rfl rfl ?_
        refine wlm 1 2 rfl rfl rfl rfl rfl rfl rfl ?_
        refine wlm 2 3 rfl rfl rfl rfl rfl rfl rfl ?_
        refine wlo 3 4 rfl rfl rfl (wo_sliceD (C := cdTm) (k + 1) rfl rfl rfl rfl rfl sl25 (by first | rfl | omega) (by first | omega | (simp only [lens]; omega)) hl ?_)
        intro A4 c4 hr4
        refine wlo 4 5 rfl rfl rfl (wo_appendM (C := cdTm) (i := 0) rfl rfl rfl rfl rfl rfl rfl rfl sl25 S3 rfl hr4 S3.m (by show (_ + _) * 16 ≤ _; simp only [List.length_append, List.length_take, List.length_drop, List.length_cons, List.length_nil]; omega) ?_)
        intro vr5 w6 S9; clear S3
        change SH _ _ _ [Rs.row cdTm vr5 ((l.take k) ++ (l.drop (k + 1)))] at S9
        refine wla 5 6 rfl rfl rfl rfl rfl rfl rfl ?_
        refine wl_end rfl ?_
        refine nm_sub [(6, _)] ⟨rfl, trivial⟩ ?_
        refine nm_thn ?_
        obtain ⟨M2, hle3, S10, ⟨A5, c5, e2, hr5⟩⟩ := S9.pubrow (i := 0) (H' := [_]) rfl rfl (by have e1 : (l.take k).length = k := (by rw [List.length_take]; omega); have e2 := @List.length_drop _ k l; have e3 := @List.length_drop _ (k + 1) l; show _ * 16 ≤ _; simp only [List.length_append, List.length_cons, List.length_nil]; first | omega | (simp only [lens]; omega))
        clear S9; subst e2
        replace hl := hl.mono hle3
        replace hr1 := hr1.mono hle3
        replace hr4 := hr4.mono hle3
        refine ws_ret hC [_] rfl rfl ⟨rfl, trivial⟩ ?_
        refine ⟨_, rfl, _, hle3, (S10.pick [] [] (by decide) trivial), ?_⟩
        have hpe := put_eq (l := l) (e := e) (c := c) (k := k) (by omega) hlt hb10 (by omega)
        have e9 : put l e c = (l.take k) ++ (l.drop (k + 1)) := by
         rw [hpe]
         first
         | (exfalso; omega)
         | (rw [if_pos (show k < l.length ∧ (ga l k).e = e by omega)]; first | (rw [if_pos (show wr ((ga l k).c + c) = 0 by omega)]; simp) | (rw [if_neg (show ¬ wr ((ga l k).c + c) = 0 by omega)]; simp))
         | (rw [if_neg (show ¬ (k < l.length ∧ (ga l k).e = e) by omega)]; simp)
        rw [e9]
        exact ⟨_, _, rfl, hr5⟩
      ·replace hb44 := of_decide_eq_false hb44
       refine ws_region rfl ?_
       refine wlm 0 1 rfl rfl rfl rfl rfl rfl rfl ?_
       refine wlm 1 2 rfl rfl rfl rfl rfl rfl rfl ?_
       refine wlm 2 3 rfl rfl rfl rfl rfl rfl rfl ?_
       refine wlo 3 4 rfl rfl rfl (wo_run rfl rfl (run_build (l := [_, _]) rfl rfl st45 rfl rfl) ?_)
       refine wlo 4 5 rfl rfl rfl (wo_buildSlice1 (C := cdTm) (l := [_, _]) rfl rfl rfl rfl sl25 rfl rfl rfl rfl S3 ?_)
       intro gb2 w7 S11; clear S3
       refine wlo 5 6 rfl rfl rfl (wo_append1 (C := cdTm) (i := 1) (q := 0) (⟨e, c⟩ : Tm) rfl rfl rfl rfl rfl rfl rfl rfl sl25 S11 rfl rfl rfl (by show (_ + 1) * 16 ≤ _; first | omega | (simp only [List.length_append, List.length_take, List.length_cons, List.length_nil, List.length_map]; omega)) ?_)
       intro vr6 w8 S12; clear S11
       have S13 := S12.pick [1] [_] (by decide) ⟨rfl, trivial⟩; clear S12
       refine wla 6 7 rfl rfl rfl rfl rfl rfl rfl ?_
       refine wl_end rfl ?_
       refine nm_sub [(0, _), (7, _), (8, _)] ⟨rfl, rfl, rfl, trivial⟩ ?_
       refine nm_thn ?_
       refine ws_seqN Put_n40 Put_n41 rfl rfl rfl ?_
       refine ws_region rfl ?_
       refine wlm 0 1 rfl rfl rfl rfl rfl rfl rfl ?_
       refine wlm 1 2 rfl rfl rfl rfl rfl rfl rfl ?_
       refine wlm 2 3 rfl rfl rfl rfl rfl rfl rfl ?_
       refine wlo 3 4 rfl rfl rfl (wo_sliceD (C := cdTm) k rfl rfl rfl rfl rfl sl25 (by first | rfl | omega) (by first | omega | (simp only [lens]; omega)) hl ?_)
       intro A6 c6 hr6
       refine wlo 4 5 rfl rfl rfl (wo_appendM (C := cdTm) (i := 0) rfl rfl rfl rfl rfl rfl rfl rfl sl25 S13 rfl hr6 S13.m (by show (_ + _) * 16 ≤ _; simp only [List.length_append, List.length_take, List.length_drop, List.length_cons, List.length_nil]; omega) ?_)
       intro vr7 w9 S14; clear S13
       change SH _ _ _ [Rs.row cdTm vr7 (((l.take k) ++ [(⟨e, c⟩ : Tm)]) ++ (l.drop k))] at S14
       refine wla 5 6 rfl rfl rfl rfl rfl rfl rfl ?_
       refine wl_end rfl ?_
       refine nm_sub [(6, _)] ⟨rfl, trivial⟩ ?_
       refine nm_thn ?_
       obtain ⟨M3, hle4, S15, ⟨A7, c7, e3, hr7⟩⟩ := S14.pubrow (i := 0) (H' := [_]) rfl rfl (by have e1 : (l.take k).length = k := (by rw [List.length_take]; omega); have e2 := @List.length_drop _ k l; have e3 := @List.length_drop _ (k + 1) l; show _ * 16 ≤ _; simp only [List.length_append, List.length_cons, List.length_nil]; first | omega | (simp only [lens]; omega))
       clear S14; subst e3
       replace hl := hl.mono hle4
       replace hr1 := hr1.mono hle4
       replace hr6 := hr6.mono hle4
       refine ws_ret hC [_] rfl rfl ⟨rfl, trivial⟩ ?_
       refine ⟨_, rfl, _, hle4, (S15.pick [] [] (by decide) trivial), ?_⟩
       have hpe := put_eq (l := l) (e := e) (c := c) (k := k) (by omega) hlt hb10 (by omega)
       have e9 : put l e c = ((l.take k) ++ [(⟨e, c⟩ : Tm)]) ++ (l.drop k) := by
        rw [hpe]
        first
        | (exfalso; omega)
        | (rw [if_pos (show k < l.length ∧ (ga l k).e = e by omega)]; first | (rw [if_pos (show wr ((ga l k).c + c) = 0 by omega)]; simp) | (rw [if_neg (show ¬ wr ((ga l k).c + c) = 0 by omega)]; simp))
        | (rw [if_neg (show ¬ (k < l.length ∧ (ga l k).e = e) by omega)]; simp)
       rw [e9]
       exact ⟨_, _, rfl, hr7⟩
     ·replace hg36 := of_decide_eq_false hg36
      refine wl_no (k := 5) (k' := 6) (d := 37) rfl rfl ⟨_, _, _, rfl, rfl, rfl, rfl⟩ rfl rfl ?_
      refine wl_no (k := 6) (k' := 7) (d := 38) rfl rfl ⟨_, _, _, rfl, rfl, rfl, rfl⟩ rfl rfl ?_
      refine wl_no (k := 7) (k' := 8) (d := 39) rfl rfl ⟨_, _, _, rfl, rfl, rfl, rfl⟩ rfl rfl ?_
      refine wl_no (k := 8) (k' := 9) (d := 40) rfl rfl ⟨_, _, _, rfl, rfl, rfl, rfl⟩ rfl rfl ?_
      refine wl_no (k := 9) (k' := 10) (d := 41) rfl rfl ⟨_, _, _, rfl, rfl, rfl, rfl⟩ rfl rfl ?_
      refine wl_no (k := 10) (k' := 11) (d := 42) rfl rfl ⟨_, _, _, rfl, rfl, rfl, rfl⟩ rfl rfl ?_
      refine wl_no (k := 11) (k' := 12) (d := 43) rfl rfl ⟨_, _, _, rfl, rfl, rfl, rfl⟩ rfl rfl ?_
      refine wlo 12 13 rfl rfl rfl (wo_run rfl rfl (run_pickF rfl rfl rfl) ?_)
      refine wl_end rfl ?_
      refine nm_sub [(0, _), (1, _), (2, _), (7, _), (8, _), (44, _)] ⟨rfl, rfl, rfl, rfl, rfl, rfl, trivial⟩ ?_
      refine nm_thn ?_
      refine ws_condFN Put_n33 rfl rfl rfl ?_
      refine ws_region rfl ?_
      refine wlm 0 1 rfl rfl rfl rfl rfl rfl rfl ?_
      refine wlm 1 2 rfl rfl rfl rfl rfl rfl rfl ?_
      refine wlm 2 3 rfl rfl rfl rfl rfl rfl rfl ?_
      refine wlo 3 4 rfl rfl rfl (wo_run rfl rfl (run_build (l := [_, _]) rfl rfl st45 rfl rfl) ?_)
      refine wlo 4 5 rfl rfl rfl (wo_buildSlice1 (C := cdTm) (l := [_, _]) rfl rfl rfl rfl sl25 rfl rfl rfl rfl S3 ?_)
      intro gb3 w10 S16; clear S3
      refine wlo 5 6 rfl rfl rfl (wo_append1 (C := cdTm) (i := 1) (q := 0) (⟨e, c⟩ : Tm) rfl rfl rfl rfl rfl rfl rfl rfl sl25 S16 rfl rfl rfl (by show (_ + 1) * 16 ≤ _; first | omega | (simp only [List.length_append, List.length_take, List.length_cons, List.length_nil, List.length_map]; omega)) ?_)
      intro vr8 w11 S17; clear S16
      have S18 := S17.pick [1] [_] (by decide) ⟨rfl, trivial⟩; clear S17
      refine wla 6 7 rfl rfl rfl rfl rfl rfl rfl ?_
      refine wl_end rfl ?_
      refine nm_sub [(0, _), (7, _), (8, _)] ⟨rfl, rfl, rfl, trivial⟩ ?_
      refine nm_thn ?_
      refine ws_seqN Put_n40 Put_n41 rfl rfl rfl ?_
      refine ws_region rfl ?_
      refine wlm 0 1 rfl rfl rfl rfl rfl rfl rfl ?_
      refine wlm 1 2 rfl rfl rfl rfl rfl rfl rfl ?_
      refine wlm 2 3 rfl rfl rfl rfl rfl rfl rfl ?_
      refine wlo 3 4 rfl rfl rfl (wo_sliceD (C := cdTm) k rfl rfl rfl rfl rfl sl25 (by first | rfl | omega) (by first | omega | (simp only [lens]; omega)) hl ?_)
      intro A8 c8 hr8
      refine wlo 4 5 rfl rfl rfl (wo_appendM (C := cdTm) (i := 0) rfl rfl rfl rfl rfl rfl rfl rfl sl25 S18 rfl hr8 S18.m (by show (_ + _) * 16 ≤ _; simp only [List.length_append, List.length_take, List.length_drop, List.length_cons, List.length_nil]; omega) ?_)
      intro vr9 w12 S19; clear S18
      change SH _ _ _ [Rs.row cdTm vr9 (((l.take k) ++ [(⟨e, c⟩ : Tm)]) ++ (l.drop k))] at S19
      refine wla 5 6 rfl rfl rfl rfl rfl rfl rfl ?_
      refine wl_end rfl ?_
      refine nm_sub [(6, _)] ⟨rfl, trivial⟩ ?_
      refine nm_thn ?_
      obtain ⟨M4, hle5, S20, ⟨A9, c9, e4, hr9⟩⟩ := S19.pubrow (i := 0) (H' := [_]) rfl rfl (by have e1 : (l.take k).length = k := (by rw [List.length_take]; omega); have e2 := @List.length_drop _ k l; have e3 := @List.length_drop _ (k + 1) l; show _ * 16 ≤ _; simp only [List.length_append, List.length_cons, List.length_nil]; first | omega | (simp only [lens]; omega))
      clear S19; subst e4
      replace hl := hl.mono hle5
      replace hr1 := hr1.mono hle5
      replace hr8 := hr8.mono hle5
      refine ws_ret hC [_] rfl rfl ⟨rfl, trivial⟩ ?_
      refine ⟨_, rfl, _, hle5, (S20.pick [] [] (by decide) trivial), ?_⟩
      have hpe := put_eq (l := l) (e := e) (c := c) (k := k) (by omega) hlt hb10 (by omega)
      have e9 : put l e c = ((l.take k) ++ [(⟨e, c⟩ : Tm)]) ++ (l.drop k) := by
       rw [hpe]
       first
       | (exfalso; omega)
       | (rw [if_pos (show k < l.length ∧ (ga l k).e = e by omega)]; first | (rw [if_pos (show wr ((ga l k).c + c) = 0 by omega)]; simp) | (rw [if_neg (show ¬ wr ((ga l k).c + c) = 0 by omega)]; simp))
       | (rw [if_neg (show ¬ (k < l.length ∧ (ga l k).e = e) by omega)]; simp)
      rw [e9]
      exact ⟨_, _, rfl, hr9⟩
   ·replace hg16 := of_decide_eq_false hg16
    refine wl_no (k := 5) (k' := 6) (d := 17) rfl rfl ⟨_, _, _, rfl, rfl, rfl, rfl⟩ rfl rfl ?_
    refine wl_no (k := 6) (k' := 7) (d := 18) rfl rfl ⟨_, _, _, rfl, rfl, rfl, rfl⟩ rfl rfl ?_
    refine wl_no (k := 7) (k' := 8) (d := 19) rfl rfl ⟨_, _, _, rfl, rfl, rfl, rfl⟩ rfl rfl ?_
    refine wl_no (k := 8) (k' := 9) (d := 20) rfl rfl ⟨_, _, _, rfl, rfl, rfl, rfl⟩ rfl rfl ?_
    refine wl_no (k := 9) (k' := 10) (d := 21) rfl rfl ⟨_, _, _, rfl, rfl, rfl, rfl⟩ rfl rfl ?_
    refine wl_no (k := 10) (k' := 11) (d := 22) rfl rfl ⟨_, _, _, rfl, rfl, rfl, rfl⟩ rfl rfl ?_
    refine wl_no (k := 11) (k' := 12) (d := 23) rfl rfl ⟨_, _, _, rfl, rfl, rfl, rfl⟩ rfl rfl ?_
    refine wlo 12 13 rfl rfl rfl (wo_run rfl rfl (run_pickF rfl rfl rfl) ?_)
    refine wl_end rfl ?_
    refine nm_sub [(0, _), (1, _), (2, _), (7, _), (24, _)] ⟨rfl, rfl, rfl, rfl, rfl, trivial⟩ ?_
    refine nm_thn ?_
    refine ws_condFN Put_n22 rfl rfl rfl ?_
    refine ws_exit rfl rfl ?_
    refine nm_sub [(0, _), (1, _), (2, _), (7, _)] ⟨rfl, rfl, rfl, rfl, trivial⟩ ?_
    refine nm_thn ?_
    refine ws_seqN Put_n24 Put_n25 rfl rfl rfl ?_
    refine ws_region rfl ?_
    refine wla 0 1 rfl rfl rfl rfl rfl rfl rfl ?_
    refine wl_end rfl ?_
    refine nm_thn ?_
    refine ws_seqN Put_n26 Put_n27 rfl rfl rfl ?_
    refine ws_region rfl ?_
    refine wlm 0 1 rfl rfl rfl rfl rfl rfl rfl ?_
    refine wlm 1 2 rfl rfl rfl rfl rfl rfl rfl ?_
    refine wlm 2 3 rfl rfl rfl rfl rfl rfl rfl ?_
    refine wlo 3 4 rfl rfl rfl (wo_sliceT (C := cdTm) k rfl rfl rfl rfl rfl sl25 (by first | rfl | omega) (by first | omega | (simp only [lens]; omega)) hl ?_)
    intro A10 c10 hr10
    have S21 := S1.nilrow cdTm; clear S1
    refine wlo 4 5 rfl rfl rfl (wo_appendM (C := cdTm) (i := 0) rfl rfl rfl rfl rfl rfl rfl rfl sl25 S21 rfl hr10 S21.m (by show (0 + _) * 16 ≤ _; rw [List.length_take]; omega) ?_)
    intro vr11 w13 S22; clear S21
    change SH _ _ _ [Rs.row cdTm vr11 (l.take k)] at S22
    refine wla 5 6 rfl rfl rfl rfl rfl rfl rfl ?_
    refine wl_end rfl ?_
    refine nm_sub [(0, _), (1, _), (2, _), (7, _), (8, _)] ⟨rfl, rfl, rfl, rfl, rfl, trivial⟩ ?_
    refine nm_thn ?_
    refine ws_seqN Put_n28 Put_n29 rfl rfl rfl ?_
    refine ws_seqN Put_n30 Put_n31 rfl rfl rfl ?_
    refine ws_region rfl ?_
    refine wlm 0 1 rfl rfl rfl rfl rfl rfl rfl ?_
    refine wlm 1 2 rfl rfl rfl rfl rfl rfl rfl ?_
    refine wlo 2 3 rfl rfl rfl (wo_run rfl rfl (run_len rfl rfl rfl rfl rfl rfl Tryd.underlying25) ?_)
    refine wlo 3 4 rfl rfl rfl (wo_run rfl rfl (run_lss rfl rfl rfl) ?_)
    refine wlm 4 5 rfl rfl rfl rfl rfl rfl rfl ?_
    refine wl_split (t := 36) rfl (fun hg36 => ?_) (fun hg36 => ?_)
    ·replace hg36 := of_decide_eq_true hg36
     refine wl_opG (k := 5) (k' := 6) rfl rfl ⟨_, _, _, rfl, rfl, rfl, rfl⟩ rfl (wo_run rfl rfl (run_move rfl rfl) ?_)
     refine wl_opG (k := 6) (k' := 7) rfl rfl ⟨_, _, _, rfl, rfl, rfl, rfl⟩ rfl (wo_run rfl rfl (run_move rfl rfl) ?_)
     refine wl_opG (k := 7) (k' := 8) rfl rfl ⟨_, _, _, rfl, rfl, rfl, rfl⟩ rfl (wo_run rfl rfl (run_indexM (C := cdTm) k rfl rfl rfl sl25 (by first | rfl | omega) hl (by first | omega | (simp only [lens]; omega))) ?_)
     refine wl_opG (k := 8) (k' := 9) rfl rfl ⟨_, _, _, rfl, rfl, rfl, rfl⟩ rfl (wo_run rfl rfl (run_fieldAddr rfl rfl Tryd.underlying45 rfl (ce3) (nf3)) ?_)
     refine wl_opG (k := 9) (k' := 10) rfl rfl ⟨_, _, _, rfl, rfl, rfl, rfl⟩ rfl (wo_run rfl rfl (run_load1 rfl rfl Tryd.underlying3 rfl (hl.cell S22.m (i := k) (by first | omega | (simp only [lens]; omega)) 0 rfl rfl)) ?_)
     refine wl_opG (k := 10) (k' := 11) rfl rfl ⟨_, _, _, rfl, rfl, rfl, rfl⟩ rfl (wo_run rfl rfl (run_move rfl rfl) ?_)
     refine wl_opG (k := 11) (k' := 12) rfl rfl ⟨_, _, _, rfl, rfl, rfl, rfl⟩ rfl (wo_run rfl rfl (run_eql rfl rfl rfl) ?_)
     refine wlo 12 13 rfl rfl rfl (wo_run rfl rfl (run_pickT rfl rfl rfl) ?_)
     refine wl_end rfl ?_
     refine nm_sub [(0, _), (1, _), (2, _), (7, _), (8, _), (44, _)] ⟨rfl, rfl, rfl, rfl, rfl, rfl, trivial⟩ ?_
     refine nm_thn ?_
     refine ws_condN Put_n32 Put_n33 rfl rfl rfl rfl (fun hb44 => ?_) (fun hb44 => ?_)
     ·replace hb44 := of_decide_eq_true hb44
      refine ws_seqN Put_n34 Put_n35 rfl rfl rfl ?_
      refine ws_seqN Put_n36 Put_n37 rfl rfl rfl ?_
      refine ws_region rfl ?_
      refine wlm 0 1 rfl rfl rfl rfl rfl rfl rfl ?_
      refine wlm 1 2 rfl rfl rfl rfl rfl rfl rfl ?_
      refine wlo 2 3 rfl rfl rfl (wo_run rfl rfl (run_indexM (C := cdTm) k rfl rfl rfl sl25 (by first | rfl | omega) hl (by first | omega | (simp only [lens]; omega))) ?_)
      refine wlo 3 4 rfl rfl rfl (wo_run rfl rfl (run_fieldAddr rfl rfl Tryd.underlying45 rfl (ce3) (nf3)) ?_)
      refine wlo 4 5 rfl rfl rfl (wo_run rfl rfl (run_load1 rfl rfl Tryd.underlying3 rfl (hl.cell S22.m (i := k) (by first | omega | (simp only [lens]; omega)) 1 rfl rfl)) ?_)
      refine wlm 5 6 rfl rfl rfl rfl rfl rfl rfl ?_
      refine wlo 6 7 rfl rfl rfl (wo_run rfl rfl (run_addW rfl rfl rfl) ?_)
      refine wlo 7 8 rfl rfl rfl (wo_run rfl rfl (run_neq rfl rfl rfl) ?_)
      refine wl_end rfl ?_
      refine nm_sub [(0, _), (1, _), (2, _), (7, _), (8, _), (52, _)] ⟨rfl, rfl, rfl, rfl, rfl, rfl, trivial⟩ ?_
      refine nm_thn ?_
      refine ws_condN Put_n38 Put_n39 rfl rfl rfl rfl (fun hb52 => ?_) (fun hb52 => ?_)
      ·replace hb52 := of_decide_eq_true hb52
       refine ws_region rfl ?_
       refine wlm 0 1 rfl rfl rfl rfl rfl rfl rfl ?_
       refine wlm 1 2 rfl rfl rfl rfl rfl rfl rfl ?_
       refine wlm 2 3 rfl rfl rfl rfl rfl rfl rfl ?_
       refine wlm 3 4 rfl rfl rfl rfl rfl rfl rfl ?_
       refine wlo 4 5 rfl rfl rfl (wo_run rfl rfl (run_indexM (C := cdTm) k rfl rfl rfl sl25 (by first | rfl | omega) hl (by first | omega | (simp only [lens]; omega))) ?_)
       refine wlo 5 6 rfl rfl rfl (wo_run rfl rfl (run_fieldAddr rfl rfl Tryd.underlying45 rfl (ce3) (nf3)) ?_)
       refine wlo 6 7 rfl rfl rfl (wo_run rfl rfl (run_load1 rfl rfl Tryd.underlying3 rfl (hl.cell S22.m (i := k) (by first | omega | (simp only [lens]; omega)) 1 rfl rfl)) ?_)
       refine wlm 7 8 rfl rfl rfl rfl rfl rfl rfl ?_
       refine wlo 8 9 rfl rfl rfl (wo_run rfl rfl (run_addW rfl rfl rfl) ?_)
       refine wlo 9 10 rfl rfl rfl (wo_run rfl rfl (run_build (l := [_, _]) rfl rfl st45 rfl rfl) ?_)
       refine wlo 10 11 rfl rfl rfl (wo_buildSlice1 (C := cdTm) (l := [_, _]) rfl rfl rfl rfl sl25 rfl rfl rfl rfl S22 ?_)
       intro gb4 w14 S23; clear S22
       refine wlo 11 12 rfl rfl rfl (wo_append1 (C := cdTm) (i := 1) (q := 0) (⟨e, wr (((ga l k).c) + c)⟩ : Tm) rfl rfl rfl rfl rfl rfl rfl rfl sl25 S23 rfl rfl rfl (by show (_ + 1) * 16 ≤ _; first | omega | (simp only [List.length_append, List.length_take, List.length_cons, List.length_nil, List.length_map]; omega)) ?_)
       intro vr12 w15 S24; clear S23
       have S25 := S24.pick [1] [_] (by decide) ⟨rfl, trivial⟩; clear S24
       refine wla 12 13 rfl rfl rfl rfl rfl rfl rfl ?_
       refine wl_end rfl ?_
       refine nm_sub [(0, _), (7, _), (8, _)] ⟨rfl, rfl, rfl, trivial⟩ ?_
       refine nm_thn ?_
       refine ws_region rfl ?_
       refine wlm 0 1 rfl rfl rfl rfl rfl rfl rfl ?_
       refine wlo 1 2 rfl rfl rfl (wo_run rfl rfl (run_add rfl rfl rfl (by first | omega | (simp only [lens]; omega))) ?_)
       refine wla 2 3 rfl rfl rfl rfl rfl rfl rfl ?_
       refine wl_end rfl ?_
       refine nm_sub [(0, _), (7, _), (8, _)] ⟨rfl, rfl, rfl, trivial⟩ ?_
       refine nm_thn ?_
       refine ws_seqN Put_n40 Put_n41 rfl rfl rfl ?_
       refine ws_region rfl ?_
       refine wlm 0 1 rfl rfl rfl rfl rfl rfl rfl ?_
       refine wlm 1 2 rfl rfl rfl rfl rfl rfl rfl ?_
       refine wlm 2 3 rfl rfl rfl rfl rfl rfl rfl ?_
       refine wlo 3 4 rfl rfl rfl (wo_sliceD (C := cdTm) (k + 1) rfl rfl rfl rfl rfl sl25 (by first | rfl | omega) (by first | omega | (simp only [lens]; omega)) hl ?_)
       intro A11 c11 hr11
       refine wlo 4 5 rfl rfl rfl (wo_appendM (C := cdTm) (i := 0) rfl rfl rfl rfl rfl rfl rfl rfl sl25 S25 rfl hr11 S25.m (by show (_ + _) * 16 ≤ _; simp only [List.length_append, List.length_take, List.length_drop, List.length_cons, List.length_nil]; omega) ?_)
       intro vr13 w16 S26; clear S25
       change SH _ _ _ [Rs.row cdTm vr13 (((l.take k) ++ [(⟨e, wr (((ga l k).c) + c)⟩ : Tm)]) ++ (l.drop (k + 1)))] at S26
       refine wla 5 6 rfl rfl rfl rfl rfl rfl rfl ?_
       refine wl_end rfl ?_
       refine nm_sub [(6, _)] ⟨rfl, trivial⟩ ?_
       refine nm_thn ?_
       obtain ⟨M5, hle6, S27, ⟨A12, c12, e5, hr12⟩⟩ := S26.pubrow (i := 0) (H' := [_]) rfl rfl (by have e1 : (l.take k).length = k := (by rw [List.length_take]; omega); have e2 := @List.length_drop _ k l; have e3 := @List.length_drop _ (k + 1) l; show _ * 16 ≤ _; simp only [List.length_append, List.length_cons, List.length_nil]; first | omega | (simp only [lens]; omega))
       clear S26; subst e5
       replace hl := hl.mono hle6
       replace hr10 := hr10.mono hle6
       replace hr11 := hr11.mono hle6
       refine ws_ret hC [_] rfl rfl ⟨rfl, trivial⟩ ?_
       refine ⟨_, rfl, _, hle6, (S27.pick [] [] (by decide) trivial), ?_⟩
       have hpe := put_eq (l := l) (e := e) (c := c) (k := k) (by omega) hlt hb10 (by omega)
       have e9 : put l e c = ((l.take k) ++ [(⟨e, wr (((ga l k).c) + c)⟩ : Tm)]) ++ (l.drop (k + 1)) := by
        rw [hpe]
        first
        | (exfalso; omega)
        | (rw [if_pos (show k < l.length ∧ (ga l k).e = e by omega)]; first | (rw [if_pos (show wr ((ga l k).c + c) = 0 by omega)]; simp) | (rw [if_neg (show ¬ wr ((ga l k).c + c) = 0 by omega)]; simp))
        | (rw [if_neg (show ¬ (k < l.length ∧ (ga l k).e = e) by omega)]; simp)
       rw [e9]
       exact ⟨_, _, rfl, hr12⟩
      ·replace hb52 := of_decide_eq_false hb52
       refine ws_skip rfl ?_
       refine nm_sub [(0, _), (7, _), (8, _)] ⟨rfl, rfl, rfl, trivial⟩ ?_
       refine nm_thn ?_
       refine ws_region rfl ?_
       refine wlm 0 1 rfl rfl rfl rfl rfl rfl rfl ?_
       refine wlo 1 2 rfl rfl rfl (wo_run rfl rfl (run_add rfl rfl rfl (by first | omega | (simp only [lens]; omega))) ?_)
       refine wla 2 3 rfl rfl rfl rfl rfl rfl rfl ?_
       refine wl_end rfl ?_
       refine nm_sub [(0, _), (7, _), (8, _)] ⟨rfl, rfl, rfl, trivial⟩ ?_
       refine nm_thn ?_
       refine ws_seqN Put_n40 Put_n41 rfl rfl rfl ?_
       refine ws_region rfl ?_
       refine wlm 0 1 rfl rfl rfl rfl rfl rfl rfl ?_
       refine wlm 1 2 rfl rfl rfl rfl rfl rfl rfl ?_
       refine wlm 2 3 rfl rfl rfl rfl rfl rfl rfl ?_
       refine wlo 3 4 rfl rfl rfl (wo_sliceD (C := cdTm) (k + 1) rfl rfl rfl rfl rfl sl25 (by first | rfl | omega) (by first | omega | (simp only [lens]; omega)) hl ?_)
       intro A13 c13 hr13
       refine wlo 4 5 rfl rfl rfl (wo_appendM (C := cdTm) (i := 0) rfl rfl rfl rfl rfl rfl rfl rfl sl25 S22 rfl hr13 S22.m (by show (_ + _) * 16 ≤ _; simp only [List.length_append, List.length_take, List.length_drop, List.length_cons, List.length_nil]; omega) ?_)
       intro vr14 w17 S28; clear S22
       change SH _ _ _ [Rs.row cdTm vr14 ((l.take k) ++ (l.drop (k + 1)))] at S28
       refine wla 5 6 rfl rfl rfl rfl rfl rfl rfl ?_
       refine wl_end rfl ?_
       refine nm_sub [(6, _)] ⟨rfl, trivial⟩ ?_
       refine nm_thn ?_
       obtain ⟨M6, hle7, S29, ⟨A14, c14, e6, hr14⟩⟩ := S28.pubrow (i := 0) (H' := [_]) rfl rfl (by have e1 : (l.take k).length = k := (by rw [List.length_take]; omega); have e2 := @List.length_drop _ k l; have e3 := @List.length_drop _ (k + 1) l; show _ * 16 ≤ _; simp only [List.length_append, List.length_cons, List.length_nil]; first | omega | (simp only [lens]; omega))
       clear S28; subst e6
       replace hl := hl.mono hle7
       replace hr10 := hr10.mono hle7
       replace hr13 := hr13.mono hle7
       refine ws_ret hC [_] rfl rfl ⟨rfl, trivial⟩ ?_
       refine ⟨_, rfl, _, hle7, (S29.pick [] [] (by decide) trivial), ?_⟩
       have hpe := put_eq (l := l) (e := e) (c := c) (k := k) (by omega) hlt hb10 (by omega)
       have e9 : put l e c = (l.take k) ++ (l.drop (k + 1)) := by
        rw [hpe]
        first
        | (exfalso; omega)
        | (rw [if_pos (show k < l.length ∧ (ga l k).e = e by omega)]; first | (rw [if_pos (show wr ((ga l k).c + c) = 0 by omega)]; simp) | (rw [if_neg (show ¬ wr ((ga l k).c + c) = 0 by omega)]; simp))
        | (rw [if_neg (show ¬ (k < l.length ∧ (ga l k).e = e) by omega)]; simp)
       rw [e9]
       exact ⟨_, _, rfl, hr14⟩
     ·replace hb44 := of_decide_eq_false hb44
      refine ws_region rfl ?_
      refine wlm 0 1 rfl rfl rfl rfl rfl rfl rfl ?_
      refine wlm 1 2 rfl rfl rfl rfl rfl rfl rfl ?_
      refine wlm 2 3 rfl rfl rfl rfl rfl rfl rfl ?_
      refine wlo 3 4 rfl rfl rfl (wo_run rfl rfl (run_build (l := [_, _]) rfl rfl st45 rfl rfl) ?_)
      refine wlo 4 5 rfl rfl rfl (wo_buildSlice1 (C := cdTm) (l := [_, _]) rfl rfl rfl rfl sl25 rfl rfl rfl rfl S22 ?_)
      intro gb5 w18 S30; clear S22
      refine wlo 5 6 rfl rfl rfl (wo_append1 (C := cdTm) (i := 1) (q := 0) (⟨e, c⟩ : Tm) rfl rfl rfl rfl rfl rfl rfl rfl sl25 S30 rfl rfl rfl (by show (_ + 1) * 16 ≤ _; first | omega | (simp only [List.length_append, List.length_take, List.length_cons, List.length_nil, List.length_map]; omega)) ?_)
      intro vr15 w19 S31; clear S30
      have S32 := S31.pick [1] [_] (by decide) ⟨rfl, trivial⟩; clear S31
      refine wla 6 7 rfl rfl rfl rfl rfl rfl rfl ?_
      refine wl_end rfl ?_
      refine nm_sub [(0, _), (7, _), (8, _)] ⟨rfl, rfl, rfl, trivial⟩ ?_
      refine nm_thn ?_
      refine ws_seqN Put_n40 Put_n41 rfl rfl rfl ?_
      refine ws_region rfl ?_
      refine wlm 0 1 rfl rfl rfl rfl rfl rfl rfl ?_
      refine wlm 1 2 rfl rfl rfl rfl rfl rfl rfl ?_
      refine wlm 2 3 rfl rfl rfl rfl rfl rfl rfl ?_
      refine wlo 3 4 rfl rfl rfl (wo_sliceD (C := cdTm) k rfl rfl rfl rfl rfl sl25 (by first | rfl | omega) (by first | omega | (simp only [lens]; omega)) hl ?_)
      intro A15 c15 hr15
      refine wlo 4 5 rfl rfl rfl (wo_appendM (C := cdTm) (i := 0) rfl rfl rfl rfl rfl rfl rfl rfl sl25 S32 rfl hr15 S32.m (by show (_ + _) * 16 ≤ _; simp only [List.length_append, List.length_take, List.length_drop, List.length_cons, List.length_nil]; omega) ?_)
      intro vr16 w20 S33; clear S32
      change SH _ _ _ [Rs.row cdTm vr16 (((l.take k) ++ [(⟨e, c⟩ : Tm)]) ++ (l.drop k))] at S33
      refine wla 5 6 rfl rfl rfl rfl rfl rfl rfl ?_
      refine wl_end rfl ?_
      refine nm_sub [(6, _)] ⟨rfl, trivial⟩ ?_
      refine nm_thn ?_
      obtain ⟨M7, hle8, S34, ⟨A16, c16, e7, hr16⟩⟩ := S33.pubrow (i := 0) (H' := [_]) rfl rfl (by have e1 : (l.take k).length = k := (by rw [List.length_take]; omega); have e2 := @List.length_drop _ k l; have e3 := @List.length_drop _ (k + 1) l; show _ * 16 ≤ _; simp only [List.length_append, List.length_cons, List.length_nil]; first | omega | (simp only [lens]; omega))
      clear S33; subst e7
      replace hl := hl.mono hle8
      replace hr10 := hr10.mono hle8
      replace hr15 := hr15.mono hle8
      refine ws_ret hC [_] rfl rfl ⟨rfl, trivial⟩ ?_
      refine ⟨_, rfl, _, hle8, (S34.pick [] [] (by decide) trivial), ?_⟩
      have hpe := put_eq (l := l) (e := e) (c := c) (k := k) (by omega) hlt hb10 (by omega)
      have e9 : put l e c = ((l.take k) ++ [(⟨e, c⟩ : Tm)]) ++ (l.drop k) := by
       rw [hpe]
       first
       | (exfalso; omega)
       | (rw [if_pos (show k < l.length ∧ (ga l k).e = e by omega)]; first | (rw [if_pos (show wr ((ga l k).c + c) = 0 by omega)]; simp) | (rw [if_neg (show ¬ wr ((ga l k).c + c) = 0 by omega)]; simp))
       | (rw [if_neg (show ¬ (k < l.length ∧ (ga l k).e = e) by omega)]; simp)
      rw [e9]
      exact ⟨_, _, rfl, hr16⟩
    ·replace hg36 := of_decide_eq_false hg36
     refine wl_no (k := 5) (k' := 6) (d := 37) rfl rfl ⟨_, _, _, rfl, rfl, rfl, rfl⟩ rfl rfl ?_
     refine wl_no (k := 6) (k' := 7) (d := 38) rfl rfl ⟨_, _, _, rfl, rfl, rfl, rfl⟩ rfl rfl ?_
     refine wl_no (k := 7) (k' := 8) (d := 39) rfl rfl ⟨_, _, _, rfl, rfl, rfl, rfl⟩ rfl rfl ?_
     refine wl_no (k := 8) (k' := 9) (d := 40) rfl rfl ⟨_, _, _, rfl, rfl, rfl, rfl⟩ rfl rfl ?_
     refine wl_no (k := 9) (k' := 10) (d := 41) rfl rfl ⟨_, _, _, rfl, rfl, rfl, rfl⟩ rfl rfl ?_
     refine wl_no (k := 10) (k' := 11) (d := 42) rfl rfl ⟨_, _, _, rfl, rfl, rfl, rfl⟩ rfl rfl ?_
     refine wl_no (k := 11) (k' := 12) (d := 43) rfl rfl ⟨_, _, _, rfl, rfl, rfl, rfl⟩ rfl rfl ?_
     refine wlo 12 13 rfl rfl rfl (wo_run rfl rfl (run_pickF rfl rfl rfl) ?_)
     refine wl_end rfl ?_
     refine nm_sub [(0, _), (1, _), (2, _), (7, _), (8, _), (44, _)] ⟨rfl, rfl, rfl, rfl, rfl, rfl, trivial⟩ ?_
     refine nm_thn ?_
     refine ws_condFN Put_n33 rfl rfl rfl ?_
     refine ws_region rfl ?_
     refine wlm 0 1 rfl rfl rfl rfl rfl rfl rfl ?_
     refine wlm 1 2 rfl rfl rfl rfl rfl rfl rfl ?_
     refine wlm 2 3 rfl rfl rfl rfl rfl rfl rfl ?_
     refine wlo 3 4 rfl rfl rfl (wo_run rfl rfl (run_build (l := [_, _]) rfl rfl st45 rfl rfl) ?_)
     refine wlo 4 5 rfl rfl rfl (wo_buildSlice1 (C := cdTm) (l := [_, _]) rfl rfl rfl rfl sl25 rfl rfl rfl rfl S22 ?_)
     intro gb6 w21 S35; clear S22
     refine wlo 5 6 rfl rfl rfl (wo_append1 (C := cdTm) (i := 1) (q := 0) (⟨e, c⟩ : Tm) rfl rfl rfl rfl rfl rfl rfl rfl sl25 S35 rfl rfl rfl (by show (_ + 1) * 16 ≤ _; first | omega | (simp only [List.length_append, List.length_take, List.length_cons, List.length_nil, List.length_map]; omega)) ?_)
     intro vr17 w22 S36; clear S35
     have S37 := S36.pick [1] [_] (by decide) ⟨rfl, trivial⟩; clear S36
     refine wla 6 7 rfl rfl rfl rfl rfl rfl rfl ?_
     refine wl_end rfl ?_
     refine nm_sub [(0, _), (7, _), (8, _)] ⟨rfl, rfl, rfl, trivial⟩ ?_
     refine nm_thn ?_
     refine ws_seqN Put_n40 Put_n41 rfl rfl rfl ?_
     refine ws_region rfl ?_
     refine wlm 0 1 rfl rfl rfl rfl rfl rfl rfl ?_
     refine wlm 1 2 rfl rfl rfl rfl rfl rfl rfl ?_
     refine wlm 2 3 rfl rfl rfl rfl rfl rfl rfl ?_
     refine wlo 3 4 rfl rfl rfl (wo_sliceD (C := cdTm) k rfl rfl rfl rfl rfl sl25 (by first | rfl | omega) (by first | omega | (simp only [lens]; omega)) hl ?_)
     intro A17 c17 hr17
     refine wlo 4 5 rfl rfl rfl (wo_appendM (C := cdTm) (i := 0) rfl rfl rfl rfl rfl rfl rfl rfl sl25 S37 rfl hr17 S37.m (by show (_ + _) * 16 ≤ _; simp only [List.length_append, List.length_take, List.length_drop, List.length_cons, List.length_nil]; omega) ?_)
     intro vr18 w23 S38; clear S37
     change SH _ _ _ [Rs.row cdTm vr18 (((l.take k) ++ [(⟨e, c⟩ : Tm)]) ++ (l.drop k))] at S38
     refine wla 5 6 rfl rfl rfl rfl rfl rfl rfl ?_
     refine wl_end rfl ?_
     refine nm_sub [(6, _)] ⟨rfl, trivial⟩ ?_
     refine nm_thn ?_
     obtain ⟨M8, hle9, S39, ⟨A18, c18, e8, hr18⟩⟩ := S38.pubrow (i := 0) (H' := [_]) rfl rfl (by have e1 : (l.take k).length = k := (by rw [List.length_take]; omega); have e2 := @List.length_drop _ k l; have e3 := @List.length_drop _ (k + 1) l; show _ * 16 ≤ _; simp only [List.length_append, List.length_cons, List.length_nil]; first | omega | (simp only [lens]; omega))
     clear S38; subst e8
     replace hl := hl.mono hle9
     replace hr10 := hr10.mono hle9
     replace hr17 := hr17.mono hle9
     refine ws_ret hC [_] rfl rfl ⟨rfl, trivial⟩ ?_
     refine ⟨_, rfl, _, hle9, (S39.pick [] [] (by decide) trivial), ?_⟩
     have hpe := put_eq (l := l) (e := e) (c := c) (k := k) (by omega) hlt hb10 (by omega)
     have e9 : put l e c = ((l.take k) ++ [(⟨e, c⟩ : Tm)]) ++ (l.drop k) := by
      rw [hpe]
      first
      | (exfalso; omega)
      | (rw [if_pos (show k < l.length ∧ (ga l k).e = e by omega)]; first | (rw [if_pos (show wr ((ga l k).c + c) = 0 by omega)]; simp) | (rw [if_neg (show ¬ wr ((ga l k).c + c) = 0 by omega)]; simp))
      | (rw [if_neg (show ¬ (k < l.length ∧ (ga l k).e = e) by omega)]; simp)
     rw [e9]
     exact ⟨_, _, rfl, hr18⟩
noncomputable def Product_n0 : Code := Tryd.f32.body.getD .skip
noncomputable def Product_n1 : Code := cL Product_n0
noncomputable def Product_n2 : Code := cR Product_n0
noncomputable def Product_n3 : Code := cL Product_n2
noncomputable def Product_n4 : Code := cR Product_n2
noncomputable def Product_n5 : Code := cL Product_n4
noncomputable def Product_n6 : Code := cR Product_n4
noncomputable def Product_n7 : Code := cL Product_n5
noncomputable def Product_n8 : Code := cR Product_n5
noncomputable def Product_n9 : Code := cL Product_n8
noncomputable def Product_n10 : Code := cL Product_n9
noncomputable def Product_n11 : Code := cL Product_n10
noncomputable def Product_n12 : Code := cR Product_n10
noncomputable def Product_n13 : Code := cL Product_n11
noncomputable def Product_n14 : Code := cR Product_n11
noncomputable def Product_n15 : Code := cL Product_n14
noncomputable def Product_n16 : Code := cR Product_n14
noncomputable def Product_n17 : Code := cL Product_n12
noncomputable def Product_n18 : Code := cR Product_n12
noncomputable def Product_n19 : Code := cL Product_n17
noncomputable def Product_n20 : Code := cL Product_n19
noncomputable def Product_n21 : Code := cR Product_n19
noncomputable def Product_n22 : Code := cL Product_n21
noncomputable def Product_n23 : Code := cL Product_n22
noncomputable def Product_n24 : Code := cL Product_n23
noncomputable def Product_n25 : Code := cR Product_n23
noncomputable def Product_n26 : Code := cL Product_n24
noncomputable def Product_n27 : Code := cR Product_n24
noncomputable def Product_n28 : Code := cL Product_n27
noncomputable def Product_n29 : Code := cR Product_n27
noncomputable def Product_n30 : Code := cL Product_n25
noncomputable def Product_n31 : Code := cR Product_n25
noncomputable def Product_n32 : Code := cL Product_n30
noncomputable def Product_n33 : Code := cL Product_n6
noncomputable def Product_n34 : Code := cR Product_n6
set_option maxRecDepth 10000 in
theorem Product_t {w : World} {M : Hp} {X : Fr} (a : List Tm) {aA : Option Addr} {ac : Nat} (b : List Tm) {bA : Option Addr} {bc : Nat} (ha : RdA cdTm M aA ac a) (hb : RdA cdTm M bA bc b) (A B : Nat) (hba : Bd a A) (hbb : Bd b B) (hB : A + B ≤ 1099511627776) (S : SH w M X []) : Ct Tryd.prog 32 [.slice aA a.length ac, .slice bA b.length bc] w M X (PT (A + B) (mk (pr a) * mk (pr b))) := by
 unfold Ct
 have rmha : a.length * 16 ≤ 140737488355328 := ha.room
 have rmhb : b.length * 16 ≤ 140737488355328 := hb.room
 refine calls_in (b := Product_n0) Tryd.func32 rfl Tryd.ntmps32 rfl (fun C hC => ?_)
 refine ws_sub [(0, _), (1, _)] ⟨rfl, rfl, trivial⟩ ?_
 refine ws_seqN Product_n1 Product_n2 rfl rfl rfl ?_
 refine ws_region rfl ?_
 refine wla 0 1 rfl rfl rfl rfl rfl rfl rfl ?_
 refine wl_end rfl ?_
 refine nm_sub [(0, _), (1, _)] ⟨rfl, rfl, trivial⟩ ?_
 refine nm_thn ?_
 refine ws_seqN Product_n3 Product_n4 rfl rfl rfl ?_
 refine ws_region rfl ?_
 refine wla 0 1 rfl rfl rfl rfl rfl rfl rfl ?_
 refine wl_end rfl ?_
 refine nm_thn ?_
 refine ws_seqN Product_n5 Product_n6 rfl rfl rfl ?_
 refine ws_seqN Product_n7 Product_n8 rfl rfl rfl ?_
 refine ws_region rfl ?_
 refine wla 0 1 rfl rfl rfl rfl rfl rfl rfl ?_
 refine wl_end rfl ?_
 refine nm_thn ?_
 refine ws_blockN Product_n9 0 rfl rfl rfl ?_
 refine ws_loopE (fun mx_ ax_ wx_ => ∃ (i : Nat) (acc : List Tm) (Ao : Option Addr) (co : Nat) (M1 : Hp), M.le M1 ∧ mx_ = a.length - i ∧ Env 45 [(0, .slice aA a.length ac), (1, .slice bA b.length bc), (5, .slice Ao acc.length co), (6, .int .i64 (i : Int))] ax_ ∧ SH wx_ M1 X [] ∧ RdA cdTm M1 Ao co acc ∧ i ≤ a.length ∧ Can acc ∧ Bd acc (A + B) ∧ mk (pr acc) = mk (pr (a.take i)) * mk (pr b)) rfl ?_ ?_
 ·intro ax_ hax_
  refine ⟨_, ⟨0, [], none, 0, _, Hp.le_refl _, rfl, hax_.sub ⟨rfl, rfl, rfl, rfl, trivial⟩, S.pick [] [] (by decide) trivial, ?hq1f0, ?hq1f1, ?hq1f2, ?hq1f3, ?hq1f4⟩⟩
  case hq1f0 => exact RdA.nil_
  case hq1f1 => omega
  case hq1f2 => exact Can.nil_
  case hq1f3 => (intro t ht; simp at ht)
  case hq1f4 => exact (Pol.zero_mul _).symm
 ·rintro m1 a1 w1 ⟨i, acc, Ao, co, M1, hle1, rfl, he1, S1, hacc, hi, hcc, hbc, hmc⟩
  clear S
  refine ws_in he1 (c := Product_n10) rfl ?_
  clear he1 a1
  replace ha := ha.mono hle1
  replace hb := hb.mono hle1
  refine ws_seqN Product_n11 Product_n12 rfl rfl rfl ?_
  refine ws_seqN Product_n13 Product_n14 rfl rfl rfl ?_
  refine ws_region rfl ?_
  refine wlm 0 1 rfl rfl rfl rfl rfl rfl rfl ?_
  refine wlm 1 2 rfl rfl rfl rfl rfl rfl rfl ?_
  refine wlo 2 3 rfl rfl rfl (wo_run rfl rfl (run_len rfl rfl rfl rfl rfl rfl Tryd.underlying25) ?_)
  refine wlo 3 4 rfl rfl rfl (wo_run rfl rfl (run_lss rfl rfl rfl) ?_)
  refine wl_end rfl ?_
  refine nm_sub [(0, _), (1, _), (5, _), (6, _), (11, _)] ⟨rfl, rfl, rfl, rfl, rfl, trivial⟩ ?_
  refine nm_thn ?_
  refine ws_condN Product_n15 Product_n16 rfl rfl rfl rfl (fun hb11 => ?_) (fun hb11 => ?_)
  ·replace hb11 := of_decide_eq_true hb11
   refine ws_skip rfl ?_
   refine nm_sub [(0, _), (1, _), (5, _), (6, _)] ⟨rfl, rfl, rfl, rfl, trivial⟩ ?_
   refine nm_thn ?_
   refine ws_seqN Product_n17 Product_n18 rfl rfl rfl ?_
   refine ws_blockN Product_n19 1 rfl rfl rfl ?_
   refine ws_seqN Product_n20 Product_n21 rfl rfl rfl ?_
   refine ws_region rfl ?_
   refine wla 0 1 rfl rfl rfl rfl rfl rfl rfl ?_
   refine wl_end rfl ?_
   refine nm_thn ?_
   refine ws_blockN Product_n22 2 rfl rfl rfl ?_
   refine ws_loopE (fun mx_ ax_ wx_ => ∃ (j : Nat) (acc2 : List Tm) (Ao2 : Option Addr) (co2 : Nat) (M2 : Hp), M1.le M2 ∧ mx_ = b.length - j ∧ Env 45 [(0, .slice aA a.length ac), (1, .slice bA b.length bc), (5, .slice Ao2 acc2.length co2), (6, .int .i64 (i : Int)), (7, .int .i64 (j : Int))] ax_ ∧ SH wx_ M2 X [] ∧ RdA cdTm M2 Ao2 co2 acc2 ∧ j ≤ b.length ∧ Can acc2 ∧ Bd acc2 (A + B) ∧ mk (pr acc2) = mk (pr (a.take i)) * mk (pr b) + mono (ga a i).e (ga a i).c * mk (pr (b.take j))) rfl ?_ ?_
   ·intro ax_ hax_
    refine ⟨_, ⟨0, acc, Ao, co, _, Hp.le_refl _, rfl, hax_.sub ⟨rfl, rfl, rfl, rfl, rfl, trivial⟩, S1.pick [] [] (by decide) trivial, ?hq2f0, ?hq2f1, ?hq2f2, ?hq2f3, ?hq2f4⟩⟩
    case hq2f0 => exact hacc
    case hq2f1 => omega
    case hq2f2 => exact hcc
    case hq2f3 => exact hbc
    case hq2f4 => (rw [hmc, List.take_zero]; show _ = _ + mono _ _ * Pol.o; rw [Pol.mul_zero, Pol.add_zero])
   ·rintro m2 a2 w2 ⟨j, acc2, Ao2, co2, M2, hle2, rfl, he2, S2, hacc2, hj, hcc2, hbc2, hmc2⟩
    clear S1
    refine ws_in he2 (c := Product_n23) rfl ?_
    clear he2 a2
    replace ha := ha.mono hle2
    replace hb := hb.mono hle2
    replace hacc := hacc.mono hle2
    have hai := bd_at hba (i := i) (by omega)
    refine ws_seqN Product_n24 Product_n25 rfl rfl rfl ?_
    refine ws_seqN Product_n26 Product_n27 rfl rfl rfl ?_
    refine ws_region rfl ?_
    refine wlm 0 1 rfl rfl rfl rfl rfl rfl rfl ?_
    refine wlm 1 2 rfl rfl rfl rfl rfl rfl rfl ?_
    refine wlo 2 3 rfl rfl rfl (wo_run rfl rfl (run_len rfl rfl rfl rfl rfl rfl Tryd.underlying25) ?_)
    refine wlo 3 4 rfl rfl rfl (wo_run rfl rfl (run_lss rfl rfl rfl) ?_)
    refine wl_end rfl ?_
    refine nm_sub [(0, _), (1, _), (5, _), (6, _), (7, _), (17, _)] ⟨rfl, rfl, rfl, rfl, rfl, rfl, trivial⟩ ?_
    refine nm_thn ?_
    refine ws_condN Product_n28 Product_n29 rfl rfl rfl rfl (fun hb17 => ?_) (fun hb17 => ?_)
    ·replace hb17 := of_decide_eq_true hb17
     refine ws_skip rfl ?_
     refine nm_sub [(0, _), (1, _), (5, _), (6, _), (7, _)] ⟨rfl, rfl, rfl, rfl, rfl, trivial⟩ ?_
     refine nm_thn ?_
     refine ws_seqN Product_n30 Product_n31 rfl rfl rfl ?_
     refine ws_blockN Product_n32 3 rfl rfl rfl ?_
     refine ws_draw rfl (by kernel_rfl) S2 25 rfl ?_
     clear S2
     refine wa_takeP (i := 0) (d := 20) 24 rfl (by kernel_rfl) (by kernel_rfl) (by kernel_rfl) rfl rfl rfl (fun w3 => run_move rfl rfl) ?_
     refine wa_takeP (i := 1) (d := 21) 23 rfl (by kernel_rfl) (by kernel_rfl) (by kernel_rfl) rfl rfl rfl (fun w4 => run_move rfl rfl) ?_
     refine wa_takeP (i := 2) (d := 22) 22 rfl (by kernel_rfl) (by kernel_rfl) (by kernel_rfl) rfl rfl rfl (fun w5 => run_move rfl rfl) ?_
     refine wa_take (i := 3) (d := 23) 21 rfl (by kernel_rfl) (by kernel_rfl) (by kernel_rfl) rfl rfl rfl (fun M6 N4 w6 hle6 S6 => .inl (run_indexM (C := cdTm) i rfl rfl rfl sl25 (by first | rfl | omega) (ha.mono hle6) (by first | omega | (simp only [lens]; omega)))) ?_
     refine wa_takeP (i := 4) (d := 24) 20 rfl (by kernel_rfl) (by kernel_rfl) (by kernel_rfl) rfl rfl rfl (fun w7 => run_fieldAddr rfl rfl Tryd.underlying45 rfl (ce3) (nf3)) ?_
     refine wa_take (i := 5) (d := 25) 19 rfl (by kernel_rfl) (by kernel_rfl) (by kernel_rfl) rfl rfl rfl (fun M8 N6 w8 hle8 S8 => .inl (run_load1 rfl rfl Tryd.underlying3 rfl ((ha.mono hle8).cell S8.m (i := i) (by first | omega | (simp only [lens]; omega)) 0 rfl rfl))) ?_
     refine wa_takeP (i := 6) (d := 26) 18 rfl (by kernel_rfl) (by kernel_rfl) (by kernel_rfl) rfl rfl rfl (fun w9 => run_move rfl rfl) ?_
     refine wa_takeP (i := 7) (d := 27) 17 rfl (by kernel_rfl) (by kernel_rfl) (by kernel_rfl) rfl rfl rfl (fun w10 => run_move rfl rfl) ?_
     refine wa_take (i := 8) (d := 28) 16 rfl (by kernel_rfl) (by kernel_rfl) (by kernel_rfl) rfl rfl rfl (fun M11 N9 w11 hle11 S11 => .inl (run_indexM (C := cdTm) j rfl rfl rfl sl25 (by first | rfl | omega) (hb.mono hle11) (by first | omega | (simp only [lens]; omega)))) ?_
     refine wa_takeP (i := 9) (d := 29) 15 rfl (by kernel_rfl) (by kernel_rfl) (by kernel_rfl) rfl rfl rfl (fun w12 => run_fieldAddr rfl rfl Tryd.underlying45 rfl (ce3) (nf3)) ?_
     refine wa_take (i := 10) (d := 30) 14 rfl (by kernel_rfl) (by kernel_rfl) (by kernel_rfl) rfl rfl rfl (fun M13 N11 w13 hle13 S13 => .inl (run_load1 rfl rfl Tryd.underlying3 rfl ((hb.mono hle13).cell S13.m (i := j) (by first | omega | (simp only [lens]; omega)) 0 rfl rfl))) ?_
     refine wa_takeP (i := 11) (d := 31) 13 rfl (by kernel_rfl) (by kernel_rfl) (by kernel_rfl) rfl rfl rfl (fun w14 => run_add rfl rfl rfl (by have h8 := bd_at hbb (i := j) (by omega); omega)) ?_
     refine wa_takeP (i := 12) (d := 32) 12 rfl (by kernel_rfl) (by kernel_rfl) (by kernel_rfl) rfl rfl rfl (fun w15 => run_move rfl rfl) ?_
     refine wa_takeP (i := 13) (d := 33) 11 rfl (by kernel_rfl) (by kernel_rfl) (by kernel_rfl) rfl rfl rfl (fun w16 => run_move rfl rfl) ?_
     refine wa_take (i := 14) (d := 34) 10 rfl (by kernel_rfl) (by kernel_rfl) (by kernel_rfl) rfl rfl rfl (fun M17 N15 w17 hle17 S17 => .inl (run_indexM (C := cdTm) i rfl rfl rfl sl25 (by first | rfl | omega) (ha.mono hle17) (by first | omega | (simp only [lens]; omega)))) ?_
     refine wa_takeP (i := 15) (d := 35) 9 rfl (by kernel_rfl) (by kernel_rfl) (by kernel_rfl) rfl rfl rfl (fun w18 => run_fieldAddr rfl rfl Tryd.underlying45 rfl (ce3) (nf3)) ?_
     refine wa_take (i := 16) (d := 36) 8 rfl (by kernel_rfl) (by kernel_rfl) (by kernel_rfl) rfl rfl rfl (fun M19 N17 w19 hle19 S19 => .inl (run_load1 rfl rfl Tryd.underlying3 rfl ((ha.mono hle19).cell S19.m (i := i) (by first | omega | (simp only [lens]; omega)) 1 rfl rfl))) ?_
     refine wa_takeP (i := 17) (d := 37) 7 rfl (by kernel_rfl) (by kernel_rfl) (by kernel_rfl) rfl rfl rfl (fun w20 => run_move rfl rfl) ?_
     refine wa_takeP (i := 18) (d := 38) 6 rfl (by kernel_rfl) (by kernel_rfl) (by kernel_rfl) rfl rfl rfl (fun w21 => run_move rfl rfl) ?_
     refine wa_take (i := 19) (d := 39) 5 rfl (by kernel_rfl) (by kernel_rfl) (by kernel_rfl) rfl rfl rfl (fun M22 N20 w22 hle22 S22 => .inl (run_indexM (C := cdTm) j rfl rfl rfl sl25 (by first | rfl | omega) (hb.mono hle22) (by first | omega | (simp only [lens]; omega)))) ?_
     refine wa_takeP (i := 20) (d := 40) 4 rfl (by kernel_rfl) (by kernel_rfl) (by kernel_rfl) rfl rfl rfl (fun w23 => run_fieldAddr rfl rfl Tryd.underlying45 rfl (ce3) (nf3)) ?_
     refine wa_take (i := 21) (d := 41) 3 rfl (by kernel_rfl) (by kernel_rfl) (by kernel_rfl) rfl rfl rfl (fun M24 N22 w24 hle24 S24 => .inl (run_load1 rfl rfl Tryd.underlying3 rfl ((hb.mono hle24).cell S24.m (i := j) (by first | omega | (simp only [lens]; omega)) 1 rfl rfl))) ?_
     refine wa_takeP (i := 22) (d := 42) 2 rfl (by kernel_rfl) (by kernel_rfl) (by kernel_rfl) rfl rfl rfl (fun w25 => run_mulW rfl rfl rfl) ?_
     refine wa_only (i := 23) 1 rfl (by kernel_rfl) rfl rfl (fun w27 S27 => ?_)
     refine (wo_ct rfl rfl rfl rfl rfl rfl rfl cf19 S27 (Put_t acc2 (((ga a i).e) + ((ga b j).e)) (wr (((ga a i).c) * ((ga b j).c))) hacc2 ((by have := can_len hcc2 hbc2; omega)) S27.lend) ?_)
     intro vw28 w28 M27 hle27 S28 hRw28; clear S27
     replace ha := ha.mono hle27
     replace hb := hb.mono hle27
     replace hacc := hacc.mono hle27
     replace hacc2 := hacc2.mono hle27
     obtain ⟨A1, c1, rfl, hr1⟩ := hRw28
     refine LeftW.grow [] (hle27) S28 ?_; clear S28
     change WA _ _ _ _ _ _ _ _ _ _ _ _ []
     refine wa_base ?_
     refine wa_takeP (i := 24) (d := 5) 0 rfl (by kernel_rfl) (by kernel_rfl) (by kernel_rfl) rfl rfl rfl (fun w29 => run_assign rfl rfl) ?_
     refine wa_end (by kernel_rfl) (fun w30 S30 => ?_)
     refine nm_blk ?_
     refine nm_sub [(0, _), (1, _), (5, _), (6, _), (7, _)] ⟨rfl, rfl, rfl, rfl, rfl, trivial⟩ ?_
     refine nm_thn ?_
     refine ws_region rfl ?_
     refine wlm 0 1 rfl rfl rfl rfl rfl rfl rfl ?_
     refine wlo 1 2 rfl rfl rfl (wo_run rfl rfl (run_add rfl rfl rfl (by first | omega | (simp only [lens]; omega))) ?_)
     refine wla 2 3 rfl rfl rfl rfl rfl rfl rfl ?_
     refine wl_end rfl ?_
     refine nm_lp ?_
     have hbj := bd_at hbb (i := j) (by omega)
     intro ax_ hax_
     refine ⟨_, ?hq3m, ⟨j + 1, (put acc2 (((ga a i).e) + ((ga b j).e)) (wr (((ga a i).c) * ((ga b j).c)))), A1, c1, _, (hle2.trans hle27), rfl, hax_.sub ⟨rfl, rfl, rfl, rfl, rfl, trivial⟩, S30.pick [] [] (by decide) trivial, ?hq3f0, ?hq3f1, ?hq3f2, ?hq3f3, ?hq3f4⟩⟩
     case hq3f0 => exact hr1
     case hq3f1 => omega
     case hq3f2 => exact put_can hcc2 (wr_id (by omega)) (wr_idem _)
     case hq3f3 => exact put_bd hbc2 (by omega)
     case hq3f4 => exact prod_step (by omega) hmc2
     case hq3m => omega
    ·replace hb17 := of_decide_eq_false hb17
     refine ws_exit rfl rfl ?_
     refine nm_blk ?_
     refine nm_sub [(0, _), (1, _), (5, _), (6, _)] ⟨rfl, rfl, rfl, rfl, trivial⟩ ?_
     refine nm_thn ?_
     refine ws_region rfl ?_
     refine wlm 0 1 rfl rfl rfl rfl rfl rfl rfl ?_
     refine wlo 1 2 rfl rfl rfl (wo_run rfl rfl (run_add rfl rfl rfl (by first | omega | (simp only [lens]; omega))) ?_)
     refine wla 2 3 rfl rfl rfl rfl rfl rfl rfl ?_
     refine wl_end rfl ?_
     refine nm_lp ?_
     intro ax_ hax_
     refine ⟨_, ?hq4m, ⟨i + 1, acc2, Ao2, co2, _, (hle1.trans hle2), rfl, hax_.sub ⟨rfl, rfl, rfl, rfl, trivial⟩, S2.pick [] [] (by decide) trivial, ?hq4f0, ?hq4f1, ?hq4f2, ?hq4f3, ?hq4f4⟩⟩
     case hq4f0 => exact hacc2
     case hq4f1 => omega
     case hq4f2 => exact hcc2
     case hq4f3 => exact hbc2
     case hq4f4 => (rw [hmc2, show b.take j = b by rw [show j = b.length by omega, List.take_length], mk_take (by omega), Pol.add_mul])
     case hq4m => omega
  ·replace hb11 := of_decide_eq_false hb11
   refine ws_exit rfl rfl ?_
   refine nm_sub [(5, _)] ⟨rfl, trivial⟩ ?_
   refine nm_thn ?_
   refine ws_seqN Product_n33 Product_n34 rfl rfl rfl ?_
   refine ws_region rfl ?_
   refine wlm 0 1 rfl rfl rfl rfl rfl rfl rfl ?_
   refine wla 1 2 rfl rfl rfl rfl rfl rfl rfl ?_
   refine wl_end rfl ?_
   refine nm_sub [(4, _)] ⟨rfl, trivial⟩ ?_
   refine nm_thn ?_
   refine ws_ret hC [_] rfl rfl ⟨rfl, trivial⟩ ?_
   refine ⟨_, rfl, _, hle1, (S1.pick [] [] (by decide) trivial), ?_⟩
   obtain rfl : i = a.length := by omega
   rw [List.take_length] at hmc
   exact ⟨_, _, _, rfl, hacc, hcc, hbc, hmc⟩
end Go.Proofs.YtlmcnpbkmihjkaaDoor
namespace Go.Proofs.YtlmcnpbkmihjkaaDoor
open Go.ChangeShapes Go.WideShapes Go.ChangeAt Go.RowKit
def KeysR (g : Nat) (u : Value) (M : Hp) : Prop := ∃ b, u = .func (.func 44) #[] [.pointer (some ⟨b, 0, none⟩)].toArray ∧ BxM M b 38 [.map (some g)]
theorem SH.pubB2 {w : World} {M : Hp} {X : Fr} {H H' : List Rs} {i g : Nat} {T : TypeId} {l : List Value} (S : SH w M X H) (hi : nth H i = some (Rs.box g T l)) (hH : H.set i Rs.emp = H') : ∃ M', M.le M' ∧ SH w M' X H' ∧ BxM M' g T l := by
 obtain ⟨h1, h2, h3⟩ := S.pub hi hH
 refine ⟨_, h1, h2, ?_⟩
 show (M.put w _) g = _
 rw [h3 g (by simp [Rs.box])]
 exact S.get hi
/-- One key more. -/
def stpK (s : List Int × List Int) (v : Value) (s' : List Int × List Int) : Prop := ∃ dn l1 x l2, s = (dn, l1 ++ x :: l2) ∧ v = .int .i64 x ∧ s' = (dn ++ [x], l1 ++ l2)
noncomputable def Keys_n0 : Code := Tryd.f27.body.getD .skip
noncomputable def Keys_n1 : Code := cL Keys_n0
noncomputable def Keys_n2 : Code := cR Keys_n0
noncomputable def Keys_n3 : Code := cL Keys_n2
noncomputable def Keys_n4 : Code := cR Keys_n2
set_option maxRecDepth 10000 in
theorem Keys_t {w : World} {M : Hp} {X : Fr} (es : List (Int × Int)) {ges : Nat} (hmes : MpOk (Value.int .i64) (Value.int .i64) ges es M) (S : SH w M X []) : Ct Tryd.prog 27 [.map (some ges)] w M X (KeysR ges) := by
 unfold Ct
 refine calls_in (b := Keys_n0) Tryd.func27 rfl Tryd.ntmps27 rfl (fun C hC => ?_)
 refine ws_sub [(0, _)] ⟨rfl, trivial⟩ ?_
 refine ws_seqN Keys_n1 Keys_n2 rfl rfl rfl ?_
 refine ws_region rfl ?_
 refine wl_op (k := 0) (k' := 1) rfl rfl rfl (wo_box (l := [_]) rfl rfl rfl rfl rfl S ?_)
 intro gb1 w1 S1; clear S
 refine wl_op (k := 1) (k' := 2) rfl rfl rfl (wo_run rfl rfl (run_assign rfl rfl) ?_)
 refine wl_end rfl ?_
 refine nm_sub [(1, _)] ⟨rfl, trivial⟩ ?_
 refine nm_thn ?_
 refine ws_seqN Keys_n3 Keys_n4 rfl rfl rfl ?_
 refine ws_region rfl ?_
 refine wl_op (k := 0) (k' := 1) rfl rfl rfl (wo_run rfl rfl (run_makeFunc (vs := [_]) rfl rfl rfl rfl) ?_)
 refine wl_op (k := 1) (k' := 2) rfl rfl rfl (wo_run rfl rfl (run_assign rfl rfl) ?_)
 refine wl_end rfl ?_
 refine nm_sub [(2, _)] ⟨rfl, trivial⟩ ?_
 refine nm_thn ?_
 obtain ⟨M1, hle1, S2, hbx1⟩ := S1.pubB2 (i := 0) (H' := [_]) rfl rfl
 clear S1
 replace hmes := hmes.mono hle1
 refine ws_ret hC [_] rfl rfl ⟨rfl, trivial⟩ ?_
 refine ⟨_, rfl, _, hle1, (S2.pick [] [] (by decide) trivial), ?_⟩
 exact ⟨_, rfl, hbx1⟩
namespace InF
noncomputable def Keys1_n0 : Code := Tryd.f44.body.getD .skip
noncomputable def Keys1_n1 : Code := cL Keys1_n0
noncomputable def Keys1_n2 : Code := cR Keys1_n0
noncomputable def Keys1_n3 : Code := cL Keys1_n2
noncomputable def Keys1_n4 : Code := cL Keys1_n3
noncomputable def Keys1_n5 : Code := cL Keys1_n4
noncomputable def Keys1_n6 : Code := cR Keys1_n4
noncomputable def Keys1_n7 : Code := cL Keys1_n6
noncomputable def Keys1_n8 : Code := cR Keys1_n6
noncomputable def Keys1_n9 : Code := cL Keys1_n7
noncomputable def Keys1_n10 : Code := cR Keys1_n7
noncomputable def Keys1_n11 : Code := cL Keys1_n8
noncomputable def Keys1_n12 : Code := cL Keys1_n11
noncomputable def Keys1_n13 : Code := cR Keys1_n11
noncomputable def Keys1_n14 : Code := cL Keys1_n13
noncomputable def Keys1_n15 : Code := cR Keys1_n13
noncomputable def Keys1_n17 : Code := cR Keys1_n15
set_option maxRecDepth 10000 in
theorem Keys1_iter {M : Hp} {X : Fr} {es : List (Int × Int)} {gm b : Nat} (hm : MpOk (Value.int .i64) (Value.int .i64) gm es M) (hbx : BxM M b 38 [.map (some gm)]) : IterX Tryd.prog 44 [.pointer (some ⟨b, 0, none⟩)] ([], es.map Prod.fst) stpK (fun s => s.2 = []) M X := by
 intro l J w M1 B hle0 hY S hJ0
 replace hm := hm.mono hle0
 replace hbx := hbx.mono hle0
 refine calls_in (b := Keys1_n0) Tryd.func44 rfl Tryd.ntmps44 rfl (fun C hCr hC => ?_)
 have hCF : C.F = Fence.wide := by unfold Ctx.F; rw [hCr]
 refine ws_sub [(0, _), (1, _)] ⟨rfl, rfl, trivial⟩ ?_
 refine ws_seqN Keys1_n1 Keys1_n2 rfl rfl rfl ?_
 refine ws_region rfl ?_
 refine wl_op (k := 0) (k' := 1) rfl rfl rfl (wo_run rfl rfl (run_load1 rfl rfl Tryd.underlying38 rfl (hbx.cell S.m rfl)) ?_)
 obtain ⟨arr1, clk1, hE1⟩ := hm.ents
 refine wl_op (k := 1) (k' := 2) rfl rfl rfl (wo_range rfl rfl rfl rfl Tryd.underlying38 S hE1 S.m ?_)
 intro r1 w1 S1; clear S
 refine wl_end rfl ?_
 refine nm_sub [(0, _), (5, _)] ⟨rfl, rfl, trivial⟩ ?_
 refine nm_thn ?_
 refine ws_blockN Keys1_n3 0 rfl rfl rfl ?_
 refine ws_loopE (fun mx_ ax_ wx_ => ∃ (sn : Array Nat) (dn : List (Int × Int)) (lf : List (Int × Int)) (B1 : Rs) (M2 : Hp), M1.le M2 ∧ mx_ = lf.length ∧ Env 14 [(0, .func (.yield l) #[] #[]), (5, .pointer (some ⟨r1, 0, none⟩))] ax_ ∧ SH wx_ M2 X [Rs.itr gm clk1 r1 sn, B1] ∧ Lft (Value.int .i64) (Value.int .i64) arr1 sn lf ∧ (dn ++ lf).Perm es ∧ J (dn.map Prod.fst, lf.map Prod.fst) M2 B1) rfl ?_ ?_
 ·intro ax_ hax_
  refine ⟨_, ⟨#[], [], es, _, _, Hp.le_refl _, rfl, hax_.sub ⟨rfl, rfl, trivial⟩, S1.pick [0, 1] [_, _] (by decide) ⟨rfl, rfl, trivial⟩, ?hq1f0, ?hq1f1, ?hq1f2⟩⟩
  case hq1f0 => exact hE1.lft
  case hq1f1 => exact List.Perm.refl _
  case hq1f2 => exact hJ0
 ·rintro m1 a1 w2 ⟨sn, dn, lf, B1, M2, hle1, rfl, he1, S2, hlf, hpm, hJa⟩
  clear S1
  refine ws_in he1 (c := Keys1_n4) rfl ?_
  clear he1 a1
  replace hbx := hbx.mono hle1
  replace hm := hm.mono hle1
  replace hE1 := hE1.mono hle1
  refine ws_seqN Keys1_n5 Keys1_n6 rfl rfl rfl ?_
  refine ws_region rfl ?_
  refine wl_op (k := 0) (k' := 1) rfl rfl rfl (wo_next (i := 0) rfl rfl rfl rfl S2 rfl hE1 S2.m hlf (fun hlf1 => ?_) (fun k1 v1 l1_1 l2_1 sn1 w3 hlf1 hlft1 hlst1 S3 => ?_))
  ·refine wl_op (k := 1) (k' := 2) rfl rfl rfl (wo_run rfl rfl (run_extract rfl rfl rfl) ?_)
   refine wl_end rfl ?_
   refine nm_sub [(0, _), (5, _), (7, _)] ⟨rfl, rfl, rfl, trivial⟩ ?_
   refine nm_thn ?_
   refine ws_seqN Keys1_n7 Keys1_n8 rfl rfl rfl ?_
   refine ws_condFN Keys1_n10 rfl rfl rfl ?_
   refine ws_exit rfl rfl ?_
   refine nm_end hC [] rfl trivial ?_
   obtain rfl : lf = [] := hlf1
   exact ⟨⟨_, rfl⟩, _, _, _, rfl, hle1, S2.pick [1] [_] (by decide) ⟨rfl, trivial⟩, hJa⟩
  ·clear S2
   change SH _ _ _ [Rs.itr gm clk1 r1 sn1, _] at S3
   refine wl_op (k := 1) (k' := 2) rfl rfl rfl (wo_run rfl rfl (run_extract rfl rfl rfl) ?_)
   refine wl_end rfl ?_
   refine nm_sub [(0, _), (5, _), (7, _)] ⟨rfl, rfl, rfl, trivial⟩ ?_
   refine nm_thn ?_
   refine ws_seqN Keys1_n7 Keys1_n8 rfl rfl rfl ?_
   refine ws_condTN Keys1_n9 rfl rfl rfl ?_
   refine ws_skip rfl ?_
   refine nm_sub [(0, _), (5, _)] ⟨rfl, rfl, trivial⟩ ?_
   refine nm_thn ?_
   refine ws_blockN Keys1_n11 1 rfl rfl rfl ?_
   refine ws_seqN Keys1_n12 Keys1_n13 rfl rfl rfl ?_
   refine ws_region rfl ?_
   refine wl_op (k := 0) (k' := 1) rfl rfl rfl (wo_run rfl rfl (run_entry (i := 0) rfl rfl S3 rfl hE1 S3.m hlst1) ?_)
   refine wl_op (k := 1) (k' := 2) rfl rfl rfl (wo_run rfl rfl (run_extract rfl rfl rfl) ?_)
   refine wl_op (k := 2) (k' := 3) rfl rfl rfl (wo_run rfl rfl (run_assign rfl rfl) ?_)
   refine wl_end rfl ?_
   refine nm_sub [(0, _), (5, _), (3, _)] ⟨rfl, rfl, rfl, trivial⟩ ?_
   refine nm_thn ?_
   refine ws_seqN Keys1_n14 Keys1_n15 rfl rfl rfl ?_
   refine ws_region rfl ?_
   refine wl_op (k := 0) (k' := 1) rfl rfl rfl (wo_run rfl rfl (run_move rfl rfl) ?_)
   refine wl_op (k := 1) (k' := 2) rfl rfl rfl (wo_run rfl rfl (run_move rfl rfl) ?_)
   have hst : stpK (dn.map Prod.fst, lf.map Prod.fst) (.int .i64 k1) ((dn ++ [(k1, v1)]).map Prod.fst, (l1_1 ++ l2_1).map Prod.fst) := ⟨dn.map Prod.fst, l1_1.map Prod.fst, k1, l2_1.map Prod.fst, by rw [hlf1]; simp, rfl, by simp⟩
   have S4 := S3.perm (List.Perm.swap _ _ _)
   refine wl_yield (k := 2) (k' := 3) rfl rfl rfl rfl rfl rfl rfl rfl rfl rfl (by rw [hCF]; exact hY _ _ _ _ _ [_] _ hst (hle1) S4 hJa) ?_
   rintro _ w4 ⟨rfl, M3, B6, hle2, S5, hJ1⟩; clear S3
   replace hbx := hbx.mono hle2
   replace hm := hm.mono hle2
   replace hE1 := hE1.mono hle2
   refine wl_op (k := 3) (k' := 4) rfl rfl rfl (wo_run rfl rfl (run_not rfl rfl) ?_)
   refine wl_end rfl ?_
   refine nm_sub [(0, _), (5, _), (13, _)] ⟨rfl, rfl, rfl, trivial⟩ ?_
   refine nm_thn ?_
   refine ws_condFN Keys1_n17 rfl rfl rfl ?_
   refine ws_skip rfl ?_
   refine nm_blk ?_
   refine nm_lp ?_
   intro ax_ hax_
   refine ⟨_, ?hq2m, ⟨sn1, dn ++ [(k1, v1)], l1_1 ++ l2_1, _, _, (hle1.trans hle2), rfl, hax_.sub ⟨rfl, rfl, trivial⟩, S5.pick [1, 0] [_, _] (by decide) ⟨rfl, rfl, trivial⟩, ?hq2f0, ?hq2f1, ?hq2f2⟩⟩
   case hq2f0 => assumption
   case hq2f1 => (refine List.Perm.trans ?_ hpm; simp only [*, List.append_assoc, List.cons_append, List.nil_append]; exact (List.perm_append_left_iff _).2 (List.perm_middle.symm))
   case hq2f2 => assumption
   case hq2m => (simp only [*, List.length_append, List.length_cons]; omega)
end InF
noncomputable def ASeq_rf : Code := cL (cR (cL (cR (Tryd.f55.body.getD .skip))))
/-- What holds between two rounds. -/
def ASeqI (ks : List Int) (g2 : Nat) (s : List Int × List Int) (M : Hp) (H : List Rs) : Prop := ∃ v, H = [Rs.row cdInt v s.1, Rs.box g2 46 [v]] ∧ (s.1 ++ s.2).Perm ks
def ASeqI1 (ks : List Int) (g2 : Nat) (s : List Int × List Int) (a : Act) (M : Hp) (H : List Rs) : Prop := ∃ v dn x, Env 13 [(2, .pointer (some ⟨g2, 0, none⟩)), (5, .int .i64 x)] a ∧ H = [Rs.row cdInt v dn, Rs.box g2 46 [v]] ∧ s.1 = dn ++ [x] ∧ (s.1 ++ s.2).Perm ks
namespace InF
set_option maxRecDepth 10000 in
theorem ASeq_assign {w : World} {M : Hp} {X : Fr} {ks : List Int} {gq2 : Nat} {C : Ctx} {R0 : Rs} {H : List Rs} {L : List (Nat × Value)} {k k1 : List Int × List Int} {u : Value} (hL : Sub L [(2, .pointer (some ⟨gq2, 0, none⟩)), (7, u)]) (hst : stpK k u k1) (S : SH w M X (R0 :: H)) (hI : ASeqI ks gq2 k M H) :
  WS Tryd.prog 13 C (rgA ASeq_rf) [.lp (fun a w2 => ∃ M2 H2, M.le M2 ∧ SH w2 M2 X (R0 :: H2) ∧ ASeqI1 ks gq2 k1 a M2 H2)] L w := by
 obtain ⟨dn, l1, x, l2, rfl, rfl, rfl⟩ := hst
 obtain ⟨vro, rfl, hpm⟩ := hI
 change SH w M X [R0, Rs.row cdInt vro dn, _] at S
 refine ws_sub _ hL ?_
 refine ws_region rfl ?_
 refine wl_op (k := 0) (k' := 1) rfl rfl rfl (wo_run rfl rfl (run_assign rfl rfl) ?_)
 refine wl_end rfl ?_
 refine nm_lp ?_
 intro ax_ hax_
 refine ⟨M, _, Hp.le_refl _, S.pick [0, 1, 2] [_, _, _] (by decide) ⟨rfl, rfl, rfl, trivial⟩, vro, dn, x, hax_.sub ⟨rfl, rfl, trivial⟩, rfl, rfl, ?_⟩
 refine List.Perm.trans ?_ hpm
 show ((dn ++ [x]) ++ (l1 ++ l2)).Perm (dn ++ (l1 ++ x :: l2))
 rw [List.append_assoc]
 exact (List.perm_append_left_iff _).2 (show (x :: (l1 ++ l2)).Perm (l1 ++ x :: l2) from List.perm_middle.symm)
noncomputable def ASeqB_n1 : Code := rgB ASeq_rf
noncomputable def ASeqB_n2 : Code := cL ASeqB_n1
set_option maxRecDepth 10000 in
theorem ASeq_body {w : World} {M : Hp} {X : Fr} {ks : List Int} {gq2 : Nat} (hks : ks.length ≤ 2199023255553) {C : Ctx} {R0 : Rs} {H : List Rs} {a : Act} {k : List Int × List Int} (S : SH w M X (R0 :: H)) (hI1 : ASeqI1 ks gq2 k a M H) :
  (rgB ASeq_rf).wpIn C.F 0 Tryd.prog (post Tryd.prog C [.lp (fun _ w2 => ∃ M2 H2, M.le M2 ∧ SH w2 M2 X (R0 :: H2) ∧ ASeqI ks gq2 k M2 H2)]) a w := by
 obtain ⟨vro, dn, x, ha, rfl, hd, hpm⟩ := hI1
 obtain ⟨k1, lf⟩ := k
 dsimp only at hd hpm
 subst hd
 have hlen := hpm.length_eq
 simp only [List.length_append, List.length_cons, List.length_nil] at hlen
 change SH w M X [R0, Rs.row cdInt vro dn, _] at S
 refine ws_in ha (c := rgB ASeq_rf) rfl ?_
 refine ws_blockN ASeqB_n2 1 rfl rfl rfl ?_
 refine ws_region rfl ?_
 refine wl_op (k := 0) (k' := 1) rfl rfl rfl (wo_run rfl rfl (run_load1 rfl rfl Tryd.underlying46 rfl (S.boxc (i := 2) rfl rfl)) ?_)
 refine wl_op (k := 1) (k' := 2) rfl rfl rfl (wo_run rfl rfl (run_move rfl rfl) ?_)
 refine wl_op (k := 2) (k' := 3) rfl rfl rfl (wo_buildSlice1 (C := cdInt) (l := [_]) rfl rfl rfl rfl sl46 rfl rfl rfl rfl S ?_)
 intro gb1 w1 S1; clear S
 refine wl_op (k := 3) (k' := 4) rfl rfl rfl (wo_append1 (C := cdInt) (i := 2) (q := 0) x rfl rfl rfl rfl rfl rfl rfl rfl sl46 S1 rfl rfl rfl (by show (_ + 1) * 8 ≤ _; first | omega | (simp only [lens]; omega)) ?_)
 intro vro1 w2 S2; clear S1
 have S3 := S2.pick [1, 2, 3] [_, _, _] (by decide) ⟨rfl, rfl, rfl, trivial⟩; clear S2
 refine wl_op (k := 4) (k' := 5) rfl rfl rfl (wo_storeB (i := 2) (us := [_]) (l' := [_]) (H' := [_, _, _]) rfl rfl S3 rfl rfl rfl (S3.cells1 (i := 1) rfl) sz46 rfl (ones_cons (S3.one (i := 1) rfl) rfl) rfl rfl ?_)
 intro w3 S4; clear S3
 refine wl_end rfl ?_
 refine nm_blk ?_
 refine nm_lp ?_
 intro ax_ hax_
 exact ⟨_, _, Hp.le_refl _, S4.pick [0, 1, 2] [_, _, _] (by decide) ⟨rfl, rfl, rfl, trivial⟩, _, rfl, hpm⟩
noncomputable def ASeq_n0 : Code := Tryd.f55.body.getD .skip
noncomputable def ASeq_n1 : Code := cL ASeq_n0
noncomputable def ASeq_n2 : Code := cR ASeq_n0
noncomputable def ASeq_n3 : Code := cL ASeq_n2
noncomputable def ASeq_n4 : Code := cR ASeq_n2
noncomputable def ASeq_n5 : Code := cL ASeq_n3
noncomputable def ASeq_n6 : Code := cR ASeq_n3
noncomputable def ASeq_n7 : Code := cL ASeq_n6
set_option maxRecDepth 10000 in
theorem AppendSeq_o {w : World} {M : Hp} {X : Fr} {es : List (Int × Int)} {gm b : Nat} (hm : MpOk (Value.int .i64) (Value.int .i64) gm es M) (hbx : BxM M b 38 [.map (some gm)]) (hks : (es.map Prod.fst).length ≤ 2199023255553) (S : SH w M X []) : Co Tryd.prog 55 [.slice none 0 0, .func (.func 44) #[] [.pointer (some ⟨b, 0, none⟩)].toArray] w M X fun u N => ∃ ks, ks.Perm (es.map Prod.fst) ∧ N = [Rs.row cdInt u ks] := by
 unfold Co
 refine calls_marks (b := ASeq_n0) Tryd.func55 rfl Tryd.ntmps55 rfl (fun C hCr hC => ?_)
 refine ws_sub [(0, _), (1, _)] ⟨rfl, rfl, trivial⟩ ?_
 refine ws_seqN ASeq_n1 ASeq_n2 rfl rfl rfl ?_
 refine ws_region rfl ?_
 refine wl_op (k := 0) (k' := 1) rfl rfl rfl (wo_box (l := [_]) rfl rfl rfl rfl rfl S ?_)
 intro gb1 w1 S1; clear S
 refine wl_op (k := 1) (k' := 2) rfl rfl rfl (wo_run rfl rfl (run_assign rfl rfl) ?_)
 refine wl_end rfl ?_
 refine nm_sub [(1, _), (2, _)] ⟨rfl, rfl, trivial⟩ ?_
 refine nm_thn ?_
 refine ws_seqN ASeq_n3 ASeq_n4 rfl rfl rfl ?_
 refine ws_seqN ASeq_n5 ASeq_n6 rfl rfl rfl ?_
 refine ws_region rfl ?_
 refine wl_op (k := 0) (k' := 1) rfl rfl rfl (wo_run rfl rfl (run_move rfl rfl) ?_)
 refine wl_end rfl ?_
 refine nm_sub [(2, _), (6, _)] ⟨rfl, rfl, trivial⟩ ?_
 refine nm_thn ?_
 refine ws_blockN ASeq_n7 0 rfl rfl rfl ?_
 have S9 := (S1.nilrow cdInt)
 refine ws_rangeFuncX (p := 7) (f := 44) (lb := [_]) (asg := rgA ASeq_rf) (bd := rgB ASeq_rf) hCr rfl rfl rfl cf44 S9 (ASeqI (es.map Prod.fst) gb1) (ASeqI1 (es.map Prod.fst) gb1) ?_ (Keys1_iter hm hbx) ?_ ?_ ?_
 ·exact ⟨.slice none 0 0, rfl, List.Perm.refl _⟩
 ·intro k k1 v M' H' w' C' R0 hk hle S' hI
  exact ASeq_assign ⟨rfl, rfl, trivial⟩ hk S' hI
 ·intro k M' H' w' C' R0 a hle S' hI1
  exact ASeq_body hks S' hI1
 ·intro k a M' H' w' D l rc hfin ha hle S' hI
  obtain ⟨dn, lf⟩ := k
  obtain rfl : lf = [] := hfin
  obtain ⟨vro, rfl, hpm⟩ := hI
  change SH w' M' X [Rs.lr l D rc, Rs.row cdInt vro dn, _] at S'
  refine tail_la (c := ASeq_n4) (i := 4) (d1 := 12) (d2 := 4) (v := vro) hC rfl rfl rfl rfl rfl rfl rfl ha rfl Tryd.underlying46 rfl rfl rfl rfl S' (S'.boxc (i := 2) rfl rfl) (fun w2 S2 => ?_)
  refine ⟨_, rfl, [Rs.row cdInt vro dn], (S2.down hle).pick [0] [_] (by decide) ⟨rfl, trivial⟩, dn, ?_, rfl⟩
  simpa using hpm
end InF
end Go.Proofs.YtlmcnpbkmihjkaaDoor
namespace Go.Proofs.YtlmcnpbkmihjkaaDoor
open Go.ChangeShapes Go.WideShapes Go.ChangeAt Go.RowKit
theorem inc_ext : ∀ {a b : List Int}, a.Pairwise (fun s t => s < t) → b.Pairwise (fun s t => s < t) → (∀ t, t ∈ a ↔ t ∈ b) → a = b
 | [], [], _, _, _ => rfl
 | [], t :: b, _, _, h => by have := (h t).2 (by simp); simp at this
 | t :: a, [], _, _, h => by have := (h t).1 (by simp); simp at this
 | s :: a, t :: b, ha, hb, h => by
  obtain ⟨a1, a2⟩ := List.pairwise_cons.1 ha
  obtain ⟨b1, b2⟩ := List.pairwise_cons.1 hb
  have hst : s = t := by
   rcases List.mem_cons.1 ((h s).1 (by simp)) with e | h1
   ·exact e
   ·rcases List.mem_cons.1 ((h t).2 (by simp)) with e | h2
    ·exact e.symm
    ·have := a1 t h2; have := b1 s h1; omega
  subst hst
  refine congrArg _ (inc_ext a2 b2 fun u => ⟨fun hu => ?_, fun hu => ?_⟩)
  ·rcases List.mem_cons.1 ((h u).1 (by simp [hu])) with e | h1
   ·subst e; have := a1 u hu; omega
   ·exact h1
  ·rcases List.mem_cons.1 ((h u).2 (by simp [hu])) with e | h1
   ·subst e; have := b1 u hu; omega
   ·exact h1
theorem srt_eq {a b : List Int} (h : a.Perm b) (hn : b.Nodup) : srt a = srt b := inc_ext (srt_inc (h.nodup_iff.2 hn)) (srt_inc hn) fun t => by rw [srt_mem, srt_mem, h.mem_iff]
theorem Ents.at_ {es dn l1 l2 : List (Int × Int)} {B : Nat} (h : Ents es B) {k v : Int} {lf : List (Int × Int)} (hp : (dn ++ lf).Perm es) (hl : lf = l1 ++ (k, v) :: l2) : (-(B : Int) ≤ k ∧ k ≤ B) ∧ wr v = v := h.2 (k, v) (hp.mem_iff.1 (by rw [hl]; simp))
theorem mk_snoc (dn : List (Int × Int)) (k v : Int) : mk (dn ++ [(k, v)]) = mk dn + mono k v := by
 rw [mk_append]
 show _ + (mono k v + Pol.o) = _
 rw [Pol.add_zero]
theorem plus_step {es dn ws : List (Int × Int)} {k v : Int} (h : mk es = mk ws + mk dn) : mk (mp k (wr ((mg k es).getD 0 + v)) es) = mk ws + mk (dn ++ [(k, v)]) := by
 rw [mk_mp_add, h, mk_snoc, Pol.add_assoc]
theorem times_step {es dn : List (Int × Int)} {p : Pol} {e c k v : Int} (h : mk es = p + mono e c * mk dn) : mk (mp (e + k) (wr ((mg (e + k) es).getD 0 + wr (c * v))) es) = p + mono e c * mk (dn ++ [(k, v)]) := by
 rw [mk_mp_add, h, mk_snoc, Pol.mul_add, mono_mul, Pol.add_assoc]
 exact congrArg _ (congrArg _ (mono_congr rfl (md_wr _)))
theorem shift_step {es dn lf l1 l2 ws : List (Int × Int)} {e c k v : Int} (hw : (ws.map Prod.fst).Nodup) (hp : (dn ++ lf).Perm ws) (hl : lf = l1 ++ (k, v) :: l2) (hk : es.map Prod.fst = dn.map fun q => q.1 + e) (h : mk es = mk dn * mono e c) :
  mk (mp (k + e) (wr (v * c)) es) = mk (dn ++ [(k, v)]) * mono e c ∧ (mp (k + e) (wr (v * c)) es).map Prod.fst = (dn ++ [(k, v)]).map fun q => q.1 + e := by
 have hn : k + e ∉ es.map Prod.fst := by
  rw [hk]
  intro hm
  obtain ⟨q, hq, e1⟩ := List.mem_map.1 hm
  have h1 : ((dn ++ lf).map Prod.fst).Nodup := (hp.map Prod.fst).nodup_iff.2 hw
  rw [List.map_append] at h1
  have h2 := (List.nodup_append.1 h1).2.2 q.1 (List.mem_map.2 ⟨q, hq, rfl⟩) k (List.mem_map.2 ⟨(k, v), by rw [hl]; simp, rfl⟩)
  exact h2 (by omega)
 constructor
 ·rw [mk_mp, mg_none hn, h, mk_snoc, Pol.add_mul, mono_mul]
  exact congrArg _ (mono_congr rfl (by rw [Int.sub_zero]; exact md_wr _))
 ·rw [mp_keys, if_neg hn, hk, List.map_append]; rfl
noncomputable def Collect_n0 : Code := Tryd.f42.body.getD .skip
noncomputable def Collect_n1 : Code := cL Collect_n0
noncomputable def Collect_n2 : Code := cR Collect_n0
noncomputable def Collect_n3 : Code := cL Collect_n2
noncomputable def Collect_n4 : Code := cR Collect_n2
set_option maxRecDepth 10000 in
theorem Collect_o {w : World} {M : Hp} {X : Fr} {es : List (Int × Int)} {gm b : Nat} (hm : MpOk (Value.int .i64) (Value.int .i64) gm es M) (hbx : BxM M b 38 [.map (some gm)]) (hks : (es.map Prod.fst).length ≤ 2199023255553) (S : SH w M X []) : Co Tryd.prog 42 [.func (.func 44) #[] [.pointer (some ⟨b, 0, none⟩)].toArray] w M X (fun u N => ∃ ks, ks.Perm (es.map Prod.fst) ∧ N = [Rs.row cdInt u ks]) := by
 unfold Co
 refine calls_in (b := Collect_n0) Tryd.func42 rfl Tryd.ntmps42 rfl (fun C hC => ?_)
 refine ws_sub [(0, _)] ⟨rfl, trivial⟩ ?_
 refine ws_seqN Collect_n1 Collect_n2 rfl rfl rfl ?_
 refine ws_region rfl ?_
 refine wla 0 1 rfl rfl rfl rfl rfl rfl rfl ?_
 refine wl_end rfl ?_
 refine nm_sub [(0, _)] ⟨rfl, trivial⟩ ?_
 refine nm_thn ?_
 refine ws_seqN Collect_n3 Collect_n4 rfl rfl rfl ?_
 refine ws_region rfl ?_
 refine wlm 0 1 rfl rfl rfl rfl rfl rfl rfl ?_
 refine wlo 1 2 rfl rfl rfl (wo_co rfl rfl rfl rfl rfl rfl rfl cf55 S (InF.AppendSeq_o hm hbx hks S.lend) ?_)
 intro vw1 w1 Nw1 S1 hRw1; clear S
 obtain ⟨ksw1, hksw1, rfl⟩ := hRw1
 change SH _ _ _ [_] at S1
 refine wla 2 3 rfl rfl rfl rfl rfl rfl rfl ?_
 refine wl_end rfl ?_
 refine nm_sub [(2, _)] ⟨rfl, trivial⟩ ?_
 refine nm_thn ?_
 refine ws_ret hC [_] rfl rfl ⟨rfl, trivial⟩ ?_
 exact ⟨_, rfl, _, S1.pick [0] [_] (by decide) ⟨rfl, trivial⟩, _, hksw1, rfl⟩
noncomputable def Sorted_n0 : Code := Tryd.f26.body.getD .skip
noncomputable def Sorted_n1 : Code := cL Sorted_n0
noncomputable def Sorted_n2 : Code := cR Sorted_n0
noncomputable def Sorted_n3 : Code := cL Sorted_n2
noncomputable def Sorted_n4 : Code := cR Sorted_n2
noncomputable def Sorted_n5 : Code := cL Sorted_n4
noncomputable def Sorted_n6 : Code := cR Sorted_n4
noncomputable def Sorted_n7 : Code := cL Sorted_n6
noncomputable def Sorted_n8 : Code := cR Sorted_n6
set_option maxRecDepth 10000 in
theorem Sorted_o {w : World} {M : Hp} {X : Fr} {es : List (Int × Int)} {gm b : Nat} (hm : MpOk (Value.int .i64) (Value.int .i64) gm es M) (hbx : BxM M b 38 [.map (some gm)]) (hks : (es.map Prod.fst).length ≤ 2199023255553) (hn : (es.map Prod.fst).Nodup) (S : SH w M X []) : Co Tryd.prog 26 [.func (.func 44) #[] [.pointer (some ⟨b, 0, none⟩)].toArray] w M X (fun u N => N = [Rs.row cdInt u (srt (es.map Prod.fst))]) := by
 unfold Co
 refine calls_in (b := Sorted_n0) Tryd.func26 rfl Tryd.ntmps26 rfl (fun C hC => ?_)
 refine ws_sub [(0, _)] ⟨rfl, trivial⟩ ?_
 refine ws_seqN Sorted_n1 Sorted_n2 rfl rfl rfl ?_
 refine ws_region rfl ?_
 refine wla 0 1 rfl rfl rfl rfl rfl rfl rfl ?_
 refine wl_end rfl ?_
 refine nm_sub [(0, _)] ⟨rfl, trivial⟩ ?_
 refine nm_thn ?_
 refine ws_seqN Sorted_n3 Sorted_n4 rfl rfl rfl ?_
 refine ws_region rfl ?_
 refine wlm 0 1 rfl rfl rfl rfl rfl rfl rfl ?_
 refine wlo 1 2 rfl rfl rfl (wo_co rfl rfl rfl rfl rfl rfl rfl cf42 S (Collect_o hm hbx hks S.lend) ?_)
 intro vw1 w1 Nw1 S1 hRw1; clear S
 obtain ⟨ksw1, hksw1, rfl⟩ := hRw1
 change SH _ _ _ [_] at S1
 refine wla 2 3 rfl rfl rfl rfl rfl rfl rfl ?_
 refine wl_end rfl ?_
 refine nm_sub [(3, _)] ⟨rfl, trivial⟩ ?_
 refine nm_thn ?_
 refine ws_seqN Sorted_n5 Sorted_n6 rfl rfl rfl ?_
 refine ws_region rfl ?_
 refine wlm 0 1 rfl rfl rfl rfl rfl rfl rfl ?_
 refine wlo 1 2 rfl rfl rfl (wo_c1 rfl rfl rfl rfl rfl rfl rfl cf43 S1 (i := 0) rfl (sort_w (by have := hksw1.length_eq; omega) (S1.lend1 (i := 0) rfl)) ?_)
 rintro vw2 w2 _ _ - S2 ⟨rfl, rfl, rfl⟩; clear S1
 change SH _ _ _ [_] at S2
 refine wl_end rfl ?_
 refine nm_sub [(3, _)] ⟨rfl, trivial⟩ ?_
 refine nm_thn ?_
 refine ws_seqN Sorted_n7 Sorted_n8 rfl rfl rfl ?_
 refine ws_region rfl ?_
 refine wlm 0 1 rfl rfl rfl rfl rfl rfl rfl ?_
 refine wla 1 2 rfl rfl rfl rfl rfl rfl rfl ?_
 refine wl_end rfl ?_
 refine nm_sub [(2, _)] ⟨rfl, trivial⟩ ?_
 refine nm_thn ?_
 refine ws_ret hC [_] rfl rfl ⟨rfl, trivial⟩ ?_
 exact ⟨_, rfl, _, S2.pick [0] [_] (by decide) ⟨rfl, trivial⟩, by rw [srt_eq hksw1 hn]; rfl⟩
noncomputable def Form_n0 : Code := Tryd.f13.body.getD .skip
noncomputable def Form_n1 : Code := cL Form_n0
noncomputable def Form_n2 : Code := cR Form_n0
noncomputable def Form_n3 : Code := cL Form_n2
noncomputable def Form_n4 : Code := cR Form_n2
noncomputable def Form_n5 : Code := cL Form_n4
noncomputable def Form_n6 : Code := cR Form_n4
noncomputable def Form_n7 : Code := cL Form_n5
noncomputable def Form_n8 : Code := cR Form_n5
noncomputable def Form_n9 : Code := cL Form_n8
noncomputable def Form_n10 : Code := cL Form_n9
noncomputable def Form_n11 : Code := cL Form_n10
noncomputable def Form_n12 : Code := cR Form_n10
noncomputable def Form_n13 : Code := cL Form_n12
noncomputable def Form_n14 : Code := cR Form_n12
noncomputable def Form_n15 : Code := cL Form_n13
noncomputable def Form_n16 : Code := cR Form_n13
noncomputable def Form_n17 : Code := cL Form_n14
noncomputable def Form_n18 : Code := cR Form_n14
noncomputable def Form_n19 : Code := cL Form_n17
noncomputable def Form_n20 : Code := cL Form_n19
noncomputable def Form_n21 : Code := cR Form_n19
noncomputable def Form_n22 : Code := cL Form_n21
noncomputable def Form_n23 : Code := cR Form_n21
noncomputable def Form_n24 : Code := cL Form_n23
noncomputable def Form_n25 : Code := cR Form_n23
noncomputable def Form_n26 : Code := cL Form_n6
noncomputable def Form_n27 : Code := cR Form_n6
set_option maxRecDepth 10000 in
theorem Form_t {w : World} {M : Hp} {X : Fr} (es : List (Int × Int)) {ges : Nat} (hmes : MpOk (Value.int .i64) (Value.int .i64) ges es M) (B : Nat) (hes : Ents es B) (hB : B ≤ 1099511627776) (S : SH w M X []) : Ct Tryd.prog 13 [.map (some ges)] w M X (LsE (formL es)) := by
 unfold Ct
 have hks : (es.map Prod.fst).length ≤ 2199023255553 := by have := ents_len hes; rw [List.length_map]; omega
 refine calls_in (b := Form_n0) Tryd.func13 rfl Tryd.ntmps13 rfl (fun C hC => ?_)
 refine ws_sub [(0, _)] ⟨rfl, trivial⟩ ?_
 refine ws_seqN Form_n1 Form_n2 rfl rfl rfl ?_
 refine ws_region rfl ?_
 refine wla 0 1 rfl rfl rfl rfl rfl rfl rfl ?_
 refine wl_end rfl ?_
 refine nm_sub [(0, _)] ⟨rfl, trivial⟩ ?_
 refine nm_thn ?_
 refine ws_seqN Form_n3 Form_n4 rfl rfl rfl ?_
 refine ws_region rfl ?_
 refine wla 0 1 rfl rfl rfl rfl rfl rfl rfl ?_
 refine wl_end rfl ?_
 refine nm_thn ?_
 refine ws_seqN Form_n5 Form_n6 rfl rfl rfl ?_
 refine ws_seqN Form_n7 Form_n8 rfl rfl rfl ?_
 refine ws_region rfl ?_
 refine wlm 0 1 rfl rfl rfl rfl rfl rfl rfl ?_
 refine wlo 1 2 rfl rfl rfl (wo_ct rfl rfl rfl rfl rfl rfl rfl cf27 S (Keys_t es hmes S.lend) ?_)
 intro vw1 w1 M1 hle1 S1 hRw1; clear S
 replace hmes := hmes.mono hle1
 obtain ⟨bk1, rfl, hbx1⟩ := hRw1
 refine wlo 2 3 rfl rfl rfl (wo_co rfl rfl rfl rfl rfl rfl rfl cf26 S1 (Sorted_o hmes hbx1 hks hes.1 S1.lend) ?_)
 intro vw2 w2 Nw2 S2 hRw2; clear S1
 obtain rfl := hRw2
 change SH _ _ _ [_] at S2
 refine wlo 3 4 rfl rfl rfl (wo_run rfl rfl (run_lenR (C := cdInt) (i := 0) rfl rfl rfl rfl rfl rfl sl46 S2 rfl) ?_)
 refine wlm 4 5 rfl rfl rfl rfl rfl rfl rfl ?_
 refine wl_end rfl ?_
 refine nm_sub [(0, _), (3, _), (8, _), (9, _), (10, _)] ⟨rfl, rfl, rfl, rfl, rfl, trivial⟩ ?_
 refine nm_thn ?_
 refine ws_blockN Form_n9 0 rfl rfl rfl ?_
 have S3 := S2.nilrow cdTm; clear S2
 refine ws_loopE (fun mx_ ax_ wx_ => ∃ (i : Nat) (acc : List Tm) (vro : Value), mx_ = (srt (es.map Prod.fst)).length - i ∧ Env 28 [(0, .map (some ges)), (3, vro), (8, vw2), (9, .int .i64 ((srt (es.map Prod.fst)).length : Int)), (10, .int .i64 (i : Int))] ax_ ∧ SH wx_ M1 X [Rs.row cdTm vro acc, Rs.row cdInt vw2 (srt (es.map Prod.fst))] ∧ i ≤ (srt (es.map Prod.fst)).length ∧ acc = fm es ((srt (es.map Prod.fst)).take i)) rfl ?_ ?_
 ·intro ax_ hax_
  refine ⟨_, ⟨0, _, _, rfl, hax_.sub ⟨rfl, rfl, rfl, rfl, rfl, trivial⟩, S3.pick [0, 1] [_, _] (by decide) ⟨rfl, rfl, trivial⟩, ?hq1f0, ?hq1f1⟩⟩
  case hq1f0 => omega
  case hq1f1 => rfl
 ·rintro m1 a1 w3 ⟨i, acc, vro, rfl, he1, S4, hi, hac⟩
  clear S3
  refine ws_in he1 (c := Form_n10) rfl ?_
  clear he1 a1
  have hal : acc.length ≤ i := by rw [hac]; exact Nat.le_trans (fm_len _ _) (by rw [List.length_take]; omega)
  have hsl := srt_len (es.map Prod.fst)
  refine ws_seqN Form_n11 Form_n12 rfl rfl rfl ?_
  refine ws_region rfl ?_
  refine wlo 0 1 rfl rfl rfl (wo_run rfl rfl (run_lss rfl rfl rfl) ?_)
  refine wl_end rfl ?_
  refine nm_thn ?_
  refine ws_seqN Form_n13 Form_n14 rfl rfl rfl ?_
  refine ws_condN Form_n15 Form_n16 rfl rfl rfl rfl (fun hb11 => ?_) (fun hb11 => ?_)
  ·replace hb11 := of_decide_eq_true hb11
   refine ws_skip rfl ?_
   refine nm_sub [(0, _), (3, _), (8, _), (9, _), (10, _)] ⟨rfl, rfl, rfl, rfl, rfl, trivial⟩ ?_
   refine nm_thn ?_
   refine ws_seqN Form_n17 Form_n18 rfl rfl rfl ?_
   refine ws_blockN Form_n19 1 rfl rfl rfl ?_
   refine ws_seqN Form_n20 Form_n21 rfl rfl rfl ?_
   refine ws_region rfl ?_
   refine wlo 0 1 rfl rfl rfl (wo_run rfl rfl (run_indexR (C := cdInt) (i := 1) i rfl rfl rfl sl46 S4 rfl (by first | rfl | omega) (by first | omega | (simp only [lens]; omega))) ?_)
   refine wlo 1 2 rfl rfl rfl (wo_run rfl rfl (run_load1 rfl rfl Tryd.underlying3 rfl (S4.rowc (i := 1) (e := i) (j := 0) rfl (by first | omega | (simp only [lens]; omega)) rfl rfl)) ?_)
   refine wla 2 3 rfl rfl rfl rfl rfl rfl rfl ?_
   refine wl_end rfl ?_
   refine nm_sub [(0, _), (3, _), (8, _), (9, _), (10, _), (5, _)] ⟨rfl, rfl, rfl, rfl, rfl, rfl, trivial⟩ ?_
   refine nm_thn ?_
   refine ws_seqN Form_n22 Form_n23 rfl rfl rfl ?_
   refine ws_region rfl ?_
   refine wlm 0 1 rfl rfl rfl rfl rfl rfl rfl ?_
   refine wlm 1 2 rfl rfl rfl rfl rfl rfl rfl ?_
   refine wlo 2 3 rfl rfl rfl (wo_run rfl rfl (run_lookupM (kc := (Value.int .i64)) (vc := (Value.int .i64)) (es := es) (k := (ga (srt (es.map Prod.fst)) i)) (zv := 0) rfl rfl rfl Tryd.underlying38 mk3 zr3 hmes S4.m) ?_)
   refine wlo 3 4 rfl rfl rfl (wo_run rfl rfl (run_neq rfl rfl rfl) ?_)
   refine wl_end rfl ?_
   refine nm_sub [(0, _), (3, _), (8, _), (9, _), (10, _), (5, _), (17, _)] ⟨rfl, rfl, rfl, rfl, rfl, rfl, rfl, trivial⟩ ?_
   refine nm_thn ?_
   refine ws_condN Form_n24 Form_n25 rfl rfl rfl rfl (fun hb17 => ?_) (fun hb17 => ?_)
   ·replace hb17 := of_decide_eq_true hb17
    refine ws_region rfl ?_
    refine wlm 0 1 rfl rfl rfl rfl rfl rfl rfl ?_
    refine wlm 1 2 rfl rfl rfl rfl rfl rfl rfl ?_
    refine wlm 2 3 rfl rfl rfl rfl rfl rfl rfl ?_
    refine wlm 3 4 rfl rfl rfl rfl rfl rfl rfl ?_
    refine wlo 4 5 rfl rfl rfl (wo_run rfl rfl (run_lookupM (kc := (Value.int .i64)) (vc := (Value.int .i64)) (es := es) (k := (ga (srt (es.map Prod.fst)) i)) (zv := 0) rfl rfl rfl Tryd.underlying38 mk3 zr3 hmes S4.m) ?_)
    refine wlo 5 6 rfl rfl rfl (wo_run rfl rfl (run_build (l := [_, _]) rfl rfl st45 rfl rfl) ?_)
    refine wlo 6 7 rfl rfl rfl (wo_buildSlice1 (C := cdTm) (l := [_, _]) rfl rfl rfl rfl sl25 rfl rfl rfl rfl S4 ?_)
    intro gb1 w4 S5; clear S4
    refine wlo 7 8 rfl rfl rfl (wo_append1 (C := cdTm) (i := 1) (q := 0) (⟨ga (srt (es.map Prod.fst)) i, (mg (ga (srt (es.map Prod.fst)) i) es).getD 0⟩ : Tm) rfl rfl rfl rfl rfl rfl rfl rfl sl25 S5 rfl rfl rfl (by show (_ + 1) * 16 ≤ _; omega) ?_)
    intro vro1 w5 S6; clear S5
    have S7 := S6.pick [1, 2] [_, _] (by decide) ⟨rfl, rfl, trivial⟩; clear S6
    refine wla 8 9 rfl rfl rfl rfl rfl rfl rfl ?_
    refine wl_end rfl ?_
    refine nm_blk ?_
    refine nm_sub [(0, _), (3, _), (8, _), (9, _), (10, _)] ⟨rfl, rfl, rfl, rfl, rfl, trivial⟩ ?_
    refine nm_thn ?_
    refine ws_region rfl ?_
    refine wlo 0 1 rfl rfl rfl (wo_run rfl rfl (run_add rfl rfl rfl (by first | omega | (simp only [lens]; omega))) ?_)
    refine wlm 1 2 rfl rfl rfl rfl rfl rfl rfl ?_
    refine wl_end rfl ?_
    refine nm_lp ?_
    intro ax_ hax_
    refine ⟨_, ?hq2m, ⟨i + 1, _, _, rfl, hax_.sub ⟨rfl, rfl, rfl, rfl, rfl, trivial⟩, S7.pick [0, 1] [_, _] (by decide) ⟨rfl, rfl, trivial⟩, ?hq2f0, ?hq2f1⟩⟩
    case hq2f0 => omega
    case hq2f1 => (rw [take_ga _ i (by omega), fm_snoc, ← hac]; first | (rw [if_neg (by assumption)]) | (rw [if_pos (by omega), List.append_nil]))
    case hq2m => omega
   ·replace hb17 := of_decide_eq_false hb17
    refine ws_skip rfl ?_
    refine nm_blk ?_
    refine nm_sub [(0, _), (3, _), (8, _), (9, _), (10, _)] ⟨rfl, rfl, rfl, rfl, rfl, trivial⟩ ?_
    refine nm_thn ?_
    refine ws_region rfl ?_
    refine wlo 0 1 rfl rfl rfl (wo_run rfl rfl (run_add rfl rfl rfl (by first | omega | (simp only [lens]; omega))) ?_)
    refine wlm 1 2 rfl rfl rfl rfl rfl rfl rfl ?_
    refine wl_end rfl ?_
    refine nm_lp ?_
    intro ax_ hax_
    refine ⟨_, ?hq3m, ⟨i + 1, _, _, rfl, hax_.sub ⟨rfl, rfl, rfl, rfl, rfl, trivial⟩, S4.pick [0, 1] [_, _] (by decide) ⟨rfl, rfl, trivial⟩, ?hq3f0, ?hq3f1⟩⟩
    case hq3f0 => omega
    case hq3f1 => (rw [take_ga _ i (by omega), fm_snoc, ← hac]; first | (rw [if_neg (by assumption)]) | (rw [if_pos (by omega), List.append_nil]))
    case hq3m => omega
  ·replace hb11 := of_decide_eq_false hb11
   refine ws_exit rfl rfl ?_
   refine nm_sub [(3, _)] ⟨rfl, trivial⟩ ?_
   refine nm_thn ?_
   refine ws_seqN Form_n26 Form_n27 rfl rfl rfl ?_
   have hsl := srt_len (es.map Prod.fst)
   refine ws_region rfl ?_
   refine wlm 0 1 rfl rfl rfl rfl rfl rfl rfl ?_
   refine wla 1 2 rfl rfl rfl rfl rfl rfl rfl ?_
   refine wl_end rfl ?_
   refine nm_sub [(2, _)] ⟨rfl, trivial⟩ ?_
   refine nm_thn ?_
   have hal : acc.length ≤ 2199023255553 := by rw [hac]; exact Nat.le_trans (fm_len _ _) (by rw [List.length_take]; omega)
   obtain ⟨M2, hle3, S8, ⟨A1, c1, e1, hr1⟩⟩ := S4.pubrow (i := 0) (H' := [_, _]) rfl rfl (by show _ * 16 ≤ _; first | omega | (simp only [lens]; omega))
   clear S4; subst e1
   replace hmes := hmes.mono hle3
   replace hbx1 := hbx1.mono hle3
   refine ws_ret hC [_] rfl rfl ⟨rfl, trivial⟩ ?_
   refine ⟨_, rfl, _, hle1.trans hle3, (S8.pick [] [] (by decide) trivial), ?_⟩
   obtain rfl : i = (srt (es.map Prod.fst)).length := by omega
   rw [List.take_length] at hac
   have e9 : formL es = acc := hac.symm
   rw [e9]
   exact ⟨_, _, rfl, hr1⟩
noncomputable def Plus_n0 : Code := Tryd.f25.body.getD .skip
noncomputable def Plus_n1 : Code := cL Plus_n0
noncomputable def Plus_n2 : Code := cR Plus_n0
noncomputable def Plus_n3 : Code := cL Plus_n2
noncomputable def Plus_n4 : Code := cR Plus_n2
noncomputable def Plus_n5 : Code := cL Plus_n4
noncomputable def Plus_n6 : Code := cR Plus_n4
noncomputable def Plus_n7 : Code := cL Plus_n5
noncomputable def Plus_n8 : Code := cR Plus_n5
noncomputable def Plus_n9 : Code := cL Plus_n8
noncomputable def Plus_n10 : Code := cL Plus_n9
noncomputable def Plus_n11 : Code := cL Plus_n10
noncomputable def Plus_n12 : Code := cR Plus_n10
noncomputable def Plus_n13 : Code := cL Plus_n12
noncomputable def Plus_n14 : Code := cR Plus_n12
noncomputable def Plus_n15 : Code := cL Plus_n13
noncomputable def Plus_n16 : Code := cR Plus_n13
noncomputable def Plus_n17 : Code := cL Plus_n6
noncomputable def Plus_n18 : Code := cR Plus_n6
noncomputable def Plus_n19 : Code := cL Plus_n14
noncomputable def Plus_n20 : Code := cL Plus_n19
noncomputable def Plus_n21 : Code := cR Plus_n19
set_option maxRecDepth 10000 in
theorem Plus_t {w : World} {M : Hp} {X : Fr} (ws : List (Int × Int)) {gws : Nat} (vs : List (Int × Int)) {gvs : Nat} (hmws : MpOk (Value.int .i64) (Value.int .i64) gws ws M) (hmvs : MpOk (Value.int .i64) (Value.int .i64) gvs vs M) (B : Nat) (hws : Ents ws B) (hvs : Ents vs B) (S : SH w M X []) : Ct Tryd.prog 25 [.map (some gws), .map (some gvs)] w M X (WkR B (mk ws + mk vs)) := by
 unfold Ct
 refine calls_in (b := Plus_n0) Tryd.func25 rfl Tryd.ntmps25 rfl (fun C hC => ?_)
 refine ws_sub [(0, _), (1, _)] ⟨rfl, rfl, trivial⟩ ?_
 refine ws_seqN Plus_n1 Plus_n2 rfl rfl rfl ?_
 refine ws_region rfl ?_
 refine wla 0 1 rfl rfl rfl rfl rfl rfl rfl ?_
 refine wl_end rfl ?_
 refine nm_sub [(0, _), (1, _)] ⟨rfl, rfl, trivial⟩ ?_
 refine nm_thn ?_
 refine ws_seqN Plus_n3 Plus_n4 rfl rfl rfl ?_
 refine ws_region rfl ?_
 refine wlm 0 1 rfl rfl rfl rfl rfl rfl rfl ?_
 refine wlo 1 2 rfl rfl rfl (wo_co rfl rfl rfl rfl rfl rfl rfl cf41 S (Clone_o (hmws.mono (Hp.le_un _ _)) S.lend) ?_)
 intro vw1 w1 Nw1 S1 hRw1; clear S
 obtain ⟨gmc1, rfl, rfl⟩ := hRw1
 change SH _ _ _ [_] at S1
 refine wla 2 3 rfl rfl rfl rfl rfl rfl rfl ?_
 refine wl_end rfl ?_
 refine nm_sub [(1, _), (5, _)] ⟨rfl, rfl, trivial⟩ ?_
 refine nm_thn ?_
 refine ws_seqN Plus_n5 Plus_n6 rfl rfl rfl ?_
 refine ws_seqN Plus_n7 Plus_n8 rfl rfl rfl ?_
 refine ws_region rfl ?_
 refine wlm 0 1 rfl rfl rfl rfl rfl rfl rfl ?_
 obtain ⟨arr1, clk1, hE1⟩ := hmvs.ents
 refine wlo 1 2 rfl rfl rfl (wo_range rfl rfl rfl rfl Tryd.underlying38 S1 hE1 S1.m ?_)
 intro r1 w2 S2; clear S1
 refine wl_end rfl ?_
 refine nm_sub [(5, _), (11, _)] ⟨rfl, rfl, trivial⟩ ?_
 refine nm_thn ?_
 refine ws_blockN Plus_n9 0 rfl rfl rfl ?_
 refine ws_loopE (fun mx_ ax_ wx_ => ∃ (sn : Array Nat) (dn : List (Int × Int)) (lf : List (Int × Int)) (es : List (Int × Int)), mx_ = lf.length ∧ Env 23 [(5, .map (some gmc1)), (11, .pointer (some ⟨r1, 0, none⟩))] ax_ ∧ SH wx_ M X [Rs.itr gvs clk1 r1 sn, Rs.mp (Value.int .i64) (Value.int .i64) gmc1 es] ∧ Lft (Value.int .i64) (Value.int .i64) arr1 sn lf ∧ (dn ++ lf).Perm vs ∧ Ents es B ∧ mk es = mk ws + mk dn) rfl ?_ ?_
 ·intro ax_ hax_
  refine ⟨_, ⟨#[], [], vs, ws, rfl, hax_.sub ⟨rfl, rfl, trivial⟩, S2.pick [0, 1] [_, _] (by decide) ⟨rfl, rfl, trivial⟩, ?hq1f0, ?hq1f1, ?hq1f2, ?hq1f3⟩⟩
  case hq1f0 => exact hE1.lft
  case hq1f1 => exact List.Perm.refl _
  case hq1f2 => exact hws
  case hq1f3 => exact (Pol.add_zero _).symm
 ·rintro m1 a1 w3 ⟨sn, dn, lf, es, rfl, he1, S3, hlf, hpm, hes, hmk⟩
  clear S2
  refine ws_in he1 (c := Plus_n10) rfl ?_
  clear he1 a1
  refine ws_seqN Plus_n11 Plus_n12 rfl rfl rfl ?_
  refine ws_region rfl ?_
  refine wlo 0 1 rfl rfl rfl (wo_next (i := 0) rfl rfl rfl rfl S3 rfl hE1 S3.m hlf (fun hlf1 => ?_) (fun k1 v1 l1_1 l2_1 sn1 w4 hlf1 hlft1 hlst1 S4 => ?_))
  ·refine wlo 1 2 rfl rfl rfl (wo_run rfl rfl (run_extract rfl rfl rfl) ?_)
   refine wl_end rfl ?_
   refine nm_sub [(5, _), (11, _), (13, _)] ⟨rfl, rfl, rfl, trivial⟩ ?_
   refine nm_thn ?_
   refine ws_seqN Plus_n13 Plus_n14 rfl rfl rfl ?_
   refine ws_condFN Plus_n16 rfl rfl rfl ?_
   refine ws_exit rfl rfl ?_
   refine nm_sub [(5, _)] ⟨rfl, trivial⟩ ?_
   refine nm_thn ?_
   refine ws_seqN Plus_n17 Plus_n18 rfl rfl rfl ?_
   refine ws_region rfl ?_
   refine wlm 0 1 rfl rfl rfl rfl rfl rfl rfl ?_
   refine wla 1 2 rfl rfl rfl rfl rfl rfl rfl ?_
   refine wl_end rfl ?_
   refine nm_sub [(4, _)] ⟨rfl, trivial⟩ ?_
   refine nm_thn ?_
   obtain ⟨M1, hle2, S5, hm1⟩ := S3.pubmap (i := 1) (H' := [_, _]) rfl rfl; clear S3
   replace hmws := hmws.mono hle2
   replace hmvs := hmvs.mono hle2
   replace hE1 := hE1.mono hle2
   refine ws_ret hC [_] rfl rfl ⟨rfl, trivial⟩ ?_
   refine ⟨_, rfl, _, hle2, (S5.pick [] [] (by decide) trivial), ?_⟩
   obtain rfl : lf = [] := hlf1
   rw [List.append_nil] at hpm
   exact ⟨_, rfl, _, hm1, hes, by rw [hmk, mk_perm hpm]⟩
  ·clear S3
   change SH _ _ _ [Rs.itr gvs clk1 r1 sn1, _] at S4
   refine wlo 1 2 rfl rfl rfl (wo_run rfl rfl (run_extract rfl rfl rfl) ?_)
   refine wl_end rfl ?_
   refine nm_sub [(5, _), (11, _), (13, _)] ⟨rfl, rfl, rfl, trivial⟩ ?_
   refine nm_thn ?_
   refine ws_seqN Plus_n13 Plus_n14 rfl rfl rfl ?_
   refine ws_condTN Plus_n15 rfl rfl rfl ?_
   refine ws_skip rfl ?_
   refine nm_sub [(5, _), (11, _)] ⟨rfl, rfl, trivial⟩ ?_
   refine nm_thn ?_
   refine ws_blockN Plus_n19 1 rfl rfl rfl ?_
   refine ws_seqN Plus_n20 Plus_n21 rfl rfl rfl ?_
   refine ws_region rfl ?_
   refine wlo 0 1 rfl rfl rfl (wo_run rfl rfl (run_entry (i := 0) rfl rfl S4 rfl hE1 S4.m hlst1) ?_)
   refine wlo 1 2 rfl rfl rfl (wo_run rfl rfl (run_extract rfl rfl rfl) ?_)
   refine wlo 2 3 rfl rfl rfl (wo_run rfl rfl (run_extract rfl rfl rfl) ?_)
   refine wla 3 4 rfl rfl rfl rfl rfl rfl rfl ?_
   refine wla 4 5 rfl rfl rfl rfl rfl rfl rfl ?_
   refine wl_end rfl ?_
   refine nm_sub [(5, _), (11, _), (6, _), (7, _)] ⟨rfl, rfl, rfl, rfl, trivial⟩ ?_
   refine nm_thn ?_
   refine ws_region rfl ?_
   refine wlm 0 1 rfl rfl rfl rfl rfl rfl rfl ?_
   refine wlm 1 2 rfl rfl rfl rfl rfl rfl rfl ?_
   refine wlo 2 3 rfl rfl rfl (wo_run rfl rfl (run_lookup (kc := Value.int .i64) (vc := Value.int .i64) (es := es) (k := k1) (zv := 0) (i := 1) rfl rfl rfl Tryd.underlying38 mk3 zr3 S4 rfl) ?_)
   refine wlm 3 4 rfl rfl rfl rfl rfl rfl rfl ?_
   refine wlo 4 5 rfl rfl rfl (wo_run rfl rfl (run_addW rfl rfl rfl) ?_)
   refine wlo 5 6 rfl rfl rfl (wo_mapUpdate (kc := Value.int .i64) (vc := Value.int .i64) (es := es) (k := k1) (e := (wr (((mg k1 es).getD 0) + v1))) (i := 1) (H' := [_, _]) (.inl rfl) rfl S4 rfl rfl rfl rfl Tryd.underlying38 mk3 rfl ?_)
   intro w5 S6; clear S4
   refine wl_end rfl ?_
   refine nm_blk ?_
   refine nm_lp ?_
   intro ax_ hax_
   refine ⟨_, ?hq2m, ⟨sn1, dn ++ [(k1, v1)], l1_1 ++ l2_1, _, rfl, hax_.sub ⟨rfl, rfl, trivial⟩, S6.pick [0, 1] [_, _] (by decide) ⟨rfl, rfl, trivial⟩, ?hq2f0, ?hq2f1, ?hq2f2, ?hq2f3⟩⟩
   case hq2f0 => assumption
   case hq2f1 => (refine List.Perm.trans ?_ hpm; simp only [*, List.append_assoc, List.cons_append, List.nil_append]; exact (List.perm_append_left_iff _).2 (List.perm_middle.symm))
   case hq2f2 => exact mp_ents hes (hvs.at_ hpm (by assumption)).1 (wr_idem _)
   case hq2f3 => exact plus_step hmk
   case hq2m => (simp only [*, List.length_append, List.length_cons]; omega)
noncomputable def Times_n0 : Code := Tryd.f24.body.getD .skip
noncomputable def Times_n1 : Code := cL Times_n0
noncomputable def Times_n2 : Code := cR Times_n0
noncomputable def Times_n3 : Code := cL Times_n2
noncomputable def Times_n4 : Code := cR Times_n2
noncomputable def Times_n5 : Code := cL Times_n4
noncomputable def Times_n6 : Code := cR Times_n4
noncomputable def Times_n7 : Code := cL Times_n5
noncomputable def Times_n8 : Code := cR Times_n5
noncomputable def Times_n9 : Code := cL Times_n8
noncomputable def Times_n10 : Code := cL Times_n9
noncomputable def Times_n11 : Code := cL Times_n10
noncomputable def Times_n12 : Code := cR Times_n10
noncomputable def Times_n13 : Code := cL Times_n12
noncomputable def Times_n14 : Code := cR Times_n12
noncomputable def Times_n15 : Code := cL Times_n13
noncomputable def Times_n16 : Code := cR Times_n13
noncomputable def Times_n17 : Code := cL Times_n6
noncomputable def Times_n18 : Code := cR Times_n6
noncomputable def Times_n19 : Code := cL Times_n14
noncomputable def Times_n20 : Code := cL Times_n19
noncomputable def Times_n21 : Code := cR Times_n19
noncomputable def Times_n22 : Code := cL Times_n21
noncomputable def Times_n23 : Code := cR Times_n21
noncomputable def Times_n24 : Code := cL Times_n23
noncomputable def Times_n25 : Code := cL Times_n24
noncomputable def Times_n26 : Code := cL Times_n25
noncomputable def Times_n27 : Code := cR Times_n25
noncomputable def Times_n28 : Code := cL Times_n27
noncomputable def Times_n29 : Code := cR Times_n27
noncomputable def Times_n30 : Code := cL Times_n28
noncomputable def Times_n31 : Code := cR Times_n28
noncomputable def Times_n32 : Code := cL Times_n29
noncomputable def Times_n33 : Code := cL Times_n32
noncomputable def Times_n34 : Code := cR Times_n32
set_option maxRecDepth 10000 in
theorem Times_t {w : World} {M : Hp} {X : Fr} (ws : List (Int × Int)) {gws : Nat} (vs : List (Int × Int)) {gvs : Nat} (hmws : MpOk (Value.int .i64) (Value.int .i64) gws ws M) (hmvs : MpOk (Value.int .i64) (Value.int .i64) gvs vs M) (B B2 : Nat) (hws : Ents ws B) (hvs : Ents vs B2) (hB : B + B2 ≤ 1099511627776) (S : SH w M X []) : Ct Tryd.prog 24 [.map (some gws), .map (some gvs)] w M X (WkR (B + B2) (mk ws * mk vs)) := by
 unfold Ct
 refine calls_in (b := Times_n0) Tryd.func24 rfl Tryd.ntmps24 rfl (fun C hC => ?_)
 refine ws_sub [(0, _), (1, _)] ⟨rfl, rfl, trivial⟩ ?_
 refine ws_seqN Times_n1 Times_n2 rfl rfl rfl ?_
 refine ws_region rfl ?_
 refine wla 0 1 rfl rfl rfl rfl rfl rfl rfl ?_
 refine wl_end rfl ?_
 refine nm_sub [(0, _), (1, _)] ⟨rfl, rfl, trivial⟩ ?_
 refine nm_thn ?_
 refine ws_seqN Times_n3 Times_n4 rfl rfl rfl ?_
 refine ws_region rfl ?_
 refine wlo 0 1 rfl rfl rfl (wo_makeMap Int Int (Value.int .i64) (Value.int .i64) rfl rfl rfl S ?_)
 intro gm1 w1 S1; clear S
 refine wla 1 2 rfl rfl rfl rfl rfl rfl rfl ?_
 refine wl_end rfl ?_
 refine nm_sub [(0, _), (1, _), (5, _)] ⟨rfl, rfl, rfl, trivial⟩ ?_
 refine nm_thn ?_
 refine ws_seqN Times_n5 Times_n6 rfl rfl rfl ?_
 refine ws_seqN Times_n7 Times_n8 rfl rfl rfl ?_
 refine ws_region rfl ?_
 refine wlm 0 1 rfl rfl rfl rfl rfl rfl rfl ?_
 obtain ⟨arr1, clk1, hE1⟩ := hmws.ents
 refine wlo 1 2 rfl rfl rfl (wo_range rfl rfl rfl rfl Tryd.underlying38 S1 hE1 S1.m ?_)
 intro r1 w2 S2; clear S1
 refine wl_end rfl ?_
 refine nm_sub [(1, _), (5, _), (12, _)] ⟨rfl, rfl, rfl, trivial⟩ ?_
 refine nm_thn ?_
 refine ws_blockN Times_n9 0 rfl rfl rfl ?_
 refine ws_loopE (fun mx_ ax_ wx_ => ∃ (sn : Array Nat) (dn : List (Int × Int)) (lf : List (Int × Int)) (es : List (Int × Int)), mx_ = lf.length ∧ Env 35 [(1, .map (some gvs)), (5, .map (some gm1)), (12, .pointer (some ⟨r1, 0, none⟩))] ax_ ∧ SH wx_ M X [Rs.itr gws clk1 r1 sn, Rs.mp (Value.int .i64) (Value.int .i64) gm1 es] ∧ Lft (Value.int .i64) (Value.int .i64) arr1 sn lf ∧ (dn ++ lf).Perm ws ∧ Ents es (B + B2) ∧ mk es = mk dn * mk vs) rfl ?_ ?_
 ·intro ax_ hax_
  refine ⟨_, ⟨#[], [], ws, [], rfl, hax_.sub ⟨rfl, rfl, rfl, trivial⟩, S2.pick [0, 1] [_, _] (by decide) ⟨rfl, rfl, trivial⟩, ?hq1f0, ?hq1f1, ?hq1f2, ?hq1f3⟩⟩
  case hq1f0 => exact hE1.lft
  case hq1f1 => exact List.Perm.refl _
  case hq1f2 => exact Ents.nil_ _
  case hq1f3 => exact (Pol.zero_mul _).symm
 ·rintro m2 a1 w3 ⟨sn, dn, lf, es, rfl, he1, S3, hlf, hpm, hes, hmk⟩
  clear S2
  refine ws_in he1 (c := Times_n10) rfl ?_
  clear he1 a1
  refine ws_seqN Times_n11 Times_n12 rfl rfl rfl ?_
  refine ws_region rfl ?_
  refine wlo 0 1 rfl rfl rfl (wo_next (i := 0) rfl rfl rfl rfl S3 rfl hE1 S3.m hlf (fun hlf1 => ?_) (fun k1 v1 l1_1 l2_1 sn1 w4 hlf1 hlft1 hlst1 S4 => ?_))
  ·refine wlo 1 2 rfl rfl rfl (wo_run rfl rfl (run_extract rfl rfl rfl) ?_)
   refine wl_end rfl ?_
   refine nm_sub [(1, _), (5, _), (12, _), (14, _)] ⟨rfl, rfl, rfl, rfl, trivial⟩ ?_
   refine nm_thn ?_
   refine ws_seqN Times_n13 Times_n14 rfl rfl rfl ?_
   refine ws_condFN Times_n16 rfl rfl rfl ?_
   refine ws_exit rfl rfl ?_
   refine nm_sub [(5, _)] ⟨rfl, trivial⟩ ?_
   refine nm_thn ?_
   refine ws_seqN Times_n17 Times_n18 rfl rfl rfl ?_
   refine ws_region rfl ?_
   refine wlm 0 1 rfl rfl rfl rfl rfl rfl rfl ?_
   refine wla 1 2 rfl rfl rfl rfl rfl rfl rfl ?_
   refine wl_end rfl ?_
   refine nm_sub [(4, _)] ⟨rfl, trivial⟩ ?_
   refine nm_thn ?_
   obtain ⟨M1, hle2, S5, hm1⟩ := S3.pubmap (i := 1) (H' := [_, _]) rfl rfl; clear S3
   replace hmws := hmws.mono hle2
   replace hmvs := hmvs.mono hle2
   replace hE1 := hE1.mono hle2
   refine ws_ret hC [_] rfl rfl ⟨rfl, trivial⟩ ?_
   refine ⟨_, rfl, _, hle2, (S5.pick [] [] (by decide) trivial), ?_⟩
   obtain rfl : lf = [] := hlf1
   rw [List.append_nil] at hpm
   exact ⟨_, rfl, _, hm1, hes, by rw [hmk, mk_perm hpm]⟩
  ·clear S3
   change SH _ _ _ [Rs.itr gws clk1 r1 sn1, _] at S4
   refine wlo 1 2 rfl rfl rfl (wo_run rfl rfl (run_extract rfl rfl rfl) ?_)
   refine wl_end rfl ?_
   refine nm_sub [(1, _), (5, _), (12, _), (14, _)] ⟨rfl, rfl, rfl, rfl, trivial⟩ ?_
   refine nm_thn ?_
   refine ws_seqN Times_n13 Times_n14 rfl rfl rfl ?_
   refine ws_condTN Times_n15 rfl rfl rfl ?_
   refine ws_skip rfl ?_
   refine nm_sub [(1, _), (5, _), (12, _)] ⟨rfl, rfl, rfl, trivial⟩ ?_
   refine nm_thn ?_
   refine ws_blockN Times_n19 1 rfl rfl rfl ?_
   refine ws_seqN Times_n20 Times_n21 rfl rfl rfl ?_
   refine ws_region rfl ?_
   refine wlo 0 1 rfl rfl rfl (wo_run rfl rfl (run_entry (i := 0) rfl rfl S4 rfl hE1 S4.m hlst1) ?_)
   refine wlo 1 2 rfl rfl rfl (wo_run rfl rfl (run_extract rfl rfl rfl) ?_)
   refine wlo 2 3 rfl rfl rfl (wo_run rfl rfl (run_extract rfl rfl rfl) ?_)
   refine wla 3 4 rfl rfl rfl rfl rfl rfl rfl ?_
   refine wla 4 5 rfl rfl rfl rfl rfl rfl rfl ?_
   refine wl_end rfl ?_
   refine nm_sub [(1, _), (5, _), (12, _), (6, _), (7, _)] ⟨rfl, rfl, rfl, rfl, rfl, trivial⟩ ?_
   refine nm_thn ?_
   refine ws_seqN Times_n22 Times_n23 rfl rfl rfl ?_
   have hk1 := (hws.at_ hpm hlf1).1
   refine ws_region rfl ?_
   refine wlm 0 1 rfl rfl rfl rfl rfl rfl rfl ?_
   obtain ⟨arr2, clk2, hE2⟩ := hmvs.ents
   refine wlo 1 2 rfl rfl rfl (wo_range rfl rfl rfl rfl Tryd.underlying38 S4 hE2 S4.m ?_)
   intro r2 w5 S6; clear S4
   refine wl_end rfl ?_
   refine nm_sub [(1, _), (5, _), (12, _), (6, _), (7, _), (19, _)] ⟨rfl, rfl, rfl, rfl, rfl, rfl, trivial⟩ ?_
   refine nm_thn ?_
   refine ws_blockN Times_n24 2 rfl rfl rfl ?_
   refine ws_loopE (fun mx_ ax_ wx_ => ∃ (sn2 : Array Nat) (dn2 : List (Int × Int)) (lf2 : List (Int × Int)) (es2 : List (Int × Int)), mx_ = lf2.length ∧ Env 35 [(1, .map (some gvs)), (5, .map (some gm1)), (12, .pointer (some ⟨r1, 0, none⟩)), (6, .int .i64 k1), (7, .int .i64 v1), (19, .pointer (some ⟨r2, 0, none⟩))] ax_ ∧ SH wx_ M X [Rs.itr gvs clk2 r2 sn2, Rs.itr gws clk1 r1 sn1, Rs.mp (Value.int .i64) (Value.int .i64) gm1 es2] ∧ Lft (Value.int .i64) (Value.int .i64) arr2 sn2 lf2 ∧ (dn2 ++ lf2).Perm vs ∧ Ents es2 (B + B2) ∧ mk es2 = mk dn * mk vs + mono k1 v1 * mk dn2) rfl ?_ ?_
   ·intro ax_ hax_
    refine ⟨_, ⟨#[], [], vs, es, rfl, hax_.sub ⟨rfl, rfl, rfl, rfl, rfl, rfl, trivial⟩, S6.pick [0, 1, 2] [_, _, _] (by decide) ⟨rfl, rfl, rfl, trivial⟩, ?hq2f0, ?hq2f1, ?hq2f2, ?hq2f3⟩⟩
    case hq2f0 => exact hE2.lft
    case hq2f1 => exact List.Perm.refl _
    case hq2f2 => exact hes
    case hq2f3 => (rw [hmk]; show _ = _ + mono _ _ * Pol.o; rw [Pol.mul_zero, Pol.add_zero])
   ·rintro m3 a2 w6 ⟨sn2, dn2, lf2, es2, rfl, he2, S7, hlf2, hpm2, hes2, hmk2⟩
    clear S6
    refine ws_in he2 (c := Times_n25) rfl ?_
    clear he2 a2
    refine ws_seqN Times_n26 Times_n27 rfl rfl rfl ?_
    refine ws_region rfl ?_
    refine wlo 0 1 rfl rfl rfl (wo_next (i := 0) rfl rfl rfl rfl S7 rfl hE2 S7.m hlf2 (fun hlf2 => ?_) (fun k2 v2 l1_2 l2_2 sn2 w7 hlf2 hlft2 hlst2 S8 => ?_))
    ·refine wlo 1 2 rfl rfl rfl (wo_run rfl rfl (run_extract rfl rfl rfl) ?_)
     refine wl_end rfl ?_
     refine nm_sub [(1, _), (5, _), (12, _), (6, _), (7, _), (19, _), (21, _)] ⟨rfl, rfl, rfl, rfl, rfl, rfl, rfl, trivial⟩ ?_
     refine nm_thn ?_
     refine ws_seqN Times_n28 Times_n29 rfl rfl rfl ?_
     refine ws_condFN Times_n31 rfl rfl rfl ?_
     refine ws_exit rfl rfl ?_
     refine nm_blk ?_
     refine nm_lp ?_
     have hend2 := hlf2
     intro ax_ hax_
     refine ⟨_, ?hq3m, ⟨sn1, dn ++ [(k1, v1)], l1_1 ++ l2_1, _, rfl, hax_.sub ⟨rfl, rfl, rfl, trivial⟩, S7.pick [1, 2] [_, _] (by decide) ⟨rfl, rfl, trivial⟩, ?hq3f0, ?hq3f1, ?hq3f2, ?hq3f3⟩⟩
     case hq3f0 => assumption
     case hq3f1 => (refine List.Perm.trans ?_ hpm; simp only [*, List.append_assoc, List.cons_append, List.nil_append]; exact (List.perm_append_left_iff _).2 (List.perm_middle.symm))
     case hq3f2 => exact hes2
     case hq3f3 => (rw [hmk2, mk_snoc, Pol.add_mul, mk_perm (show dn2.Perm vs by rw [← List.append_nil dn2]; have h9 := hpm2; rw [hend2] at h9; exact h9)])
     case hq3m => (simp only [*, List.length_append, List.length_cons]; omega)
    ·clear S7
     change SH _ _ _ [Rs.itr gvs clk2 r2 sn2, _, _] at S8
     refine wlo 1 2 rfl rfl rfl (wo_run rfl rfl (run_extract rfl rfl rfl) ?_)
     refine wl_end rfl ?_
     refine nm_sub [(1, _), (5, _), (12, _), (6, _), (7, _), (19, _), (21, _)] ⟨rfl, rfl, rfl, rfl, rfl, rfl, rfl, trivial⟩ ?_
     refine nm_thn ?_
     refine ws_seqN Times_n28 Times_n29 rfl rfl rfl ?_
     refine ws_condTN Times_n30 rfl rfl rfl ?_
     refine ws_skip rfl ?_
     refine nm_sub [(1, _), (5, _), (12, _), (6, _), (7, _), (19, _)] ⟨rfl, rfl, rfl, rfl, rfl, rfl, trivial⟩ ?_
     refine nm_thn ?_
     refine ws_blockN Times_n32 3 rfl rfl rfl ?_
     refine ws_seqN Times_n33 Times_n34 rfl rfl rfl ?_
     refine ws_region rfl ?_
     refine wlo 0 1 rfl rfl rfl (wo_run rfl rfl (run_entry (i := 0) rfl rfl S8 rfl hE2 S8.m hlst2) ?_)
     refine wlo 1 2 rfl rfl rfl (wo_run rfl rfl (run_extract rfl rfl rfl) ?_)
     refine wlo 2 3 rfl rfl rfl (wo_run rfl rfl (run_extract rfl rfl rfl) ?_)
     refine wla 3 4 rfl rfl rfl rfl rfl rfl rfl ?_
     refine wla 4 5 rfl rfl rfl rfl rfl rfl rfl ?_
     refine wl_end rfl ?_
     refine nm_sub [(1, _), (5, _), (12, _), (6, _), (7, _), (19, _), (8, _), (9, _)] ⟨rfl, rfl, rfl, rfl, rfl, rfl, rfl, rfl, trivial⟩ ?_
     refine nm_thn ?_
     have hk2 := (hvs.at_ hpm2 hlf2).1
     refine ws_region rfl ?_
     refine wlm 0 1 rfl rfl rfl rfl rfl rfl rfl ?_
     refine wlm 1 2 rfl rfl rfl rfl rfl rfl rfl ?_
     refine wlm 2 3 rfl rfl rfl rfl rfl rfl rfl ?_
     refine wlo 3 4 rfl rfl rfl (wo_run rfl rfl (run_add rfl rfl rfl (by first | omega | (simp only [lens]; omega))) ?_)
     refine wlo 4 5 rfl rfl rfl (wo_run rfl rfl (run_lookup (kc := Value.int .i64) (vc := Value.int .i64) (es := es2) (k := (k1 + k2)) (zv := 0) (i := 2) rfl rfl rfl Tryd.underlying38 mk3 zr3 S8 rfl) ?_)
     refine wlm 5 6 rfl rfl rfl rfl rfl rfl rfl ?_
     refine wlm 6 7 rfl rfl rfl rfl rfl rfl rfl ?_
     refine wlo 7 8 rfl rfl rfl (wo_run rfl rfl (run_mulW rfl rfl rfl) ?_)
     refine wlo 8 9 rfl rfl rfl (wo_run rfl rfl (run_addW rfl rfl rfl) ?_)
     refine wlo 9 10 rfl rfl rfl (wo_mapUpdate (kc := Value.int .i64) (vc := Value.int .i64) (es := es2) (k := (k1 + k2)) (e := (wr (((mg (k1 + k2) es2).getD 0) + (wr (v1 * v2))))) (i := 2) (H' := [_, _, _]) (.inl rfl) rfl S8 rfl rfl rfl rfl Tryd.underlying38 mk3 rfl ?_)
     intro w8 S9; clear S8
     refine wl_end rfl ?_
     refine nm_blk ?_
     refine nm_lp ?_
     intro ax_ hax_
     refine ⟨_, ?hq4m, ⟨sn2, dn2 ++ [(k2, v2)], l1_2 ++ l2_2, _, rfl, hax_.sub ⟨rfl, rfl, rfl, rfl, rfl, rfl, trivial⟩, S9.pick [0, 1, 2] [_, _, _] (by decide) ⟨rfl, rfl, rfl, trivial⟩, ?hq4f0, ?hq4f1, ?hq4f2, ?hq4f3⟩⟩
     case hq4f0 => assumption
     case hq4f1 => (refine List.Perm.trans ?_ hpm2; simp only [*, List.append_assoc, List.cons_append, List.nil_append]; exact (List.perm_append_left_iff _).2 (List.perm_middle.symm))
     case hq4f2 => exact mp_ents hes2 (by omega) (wr_idem _)
     case hq4f3 => exact times_step hmk2
     case hq4m => (simp only [*, List.length_append, List.length_cons]; omega)
noncomputable def Shift_n0 : Code := Tryd.f15.body.getD .skip
noncomputable def Shift_n1 : Code := cL Shift_n0
noncomputable def Shift_n2 : Code := cR Shift_n0
noncomputable def Shift_n3 : Code := cL Shift_n2
noncomputable def Shift_n4 : Code := cR Shift_n2
noncomputable def Shift_n5 : Code := cL Shift_n4
noncomputable def Shift_n6 : Code := cR Shift_n4
noncomputable def Shift_n7 : Code := cL Shift_n5
noncomputable def Shift_n8 : Code := cR Shift_n5
noncomputable def Shift_n9 : Code := cL Shift_n8
noncomputable def Shift_n10 : Code := cL Shift_n9
noncomputable def Shift_n11 : Code := cL Shift_n10
noncomputable def Shift_n12 : Code := cR Shift_n10
noncomputable def Shift_n13 : Code := cL Shift_n12
noncomputable def Shift_n14 : Code := cR Shift_n12
noncomputable def Shift_n15 : Code := cL Shift_n13
noncomputable def Shift_n16 : Code := cR Shift_n13
noncomputable def Shift_n17 : Code := cL Shift_n6
noncomputable def Shift_n18 : Code := cR Shift_n6
noncomputable def Shift_n19 : Code := cL Shift_n14
noncomputable def Shift_n20 : Code := cL Shift_n19
noncomputable def Shift_n21 : Code := cR Shift_n19
set_option maxRecDepth 10000 in
theorem Shift_t {w : World} {M : Hp} {X : Fr} (ws : List (Int × Int)) {gws : Nat} (e : Int) (c : Int) (hmws : MpOk (Value.int .i64) (Value.int .i64) gws ws M) (B E : Nat) (hws : Ents ws B) (he : -(E : Int) ≤ e ∧ e ≤ E) (hB : B + E ≤ 1099511627776) (S : SH w M X []) : Ct Tryd.prog 15 [.map (some gws), .int .i64 e, .int .i64 c] w M X (WkR (B + E) (mk ws * mono e c)) := by
 unfold Ct
 refine calls_in (b := Shift_n0) Tryd.func15 rfl Tryd.ntmps15 rfl (fun C hC => ?_)
 refine ws_sub [(0, _), (1, _), (2, _)] ⟨rfl, rfl, rfl, trivial⟩ ?_
 refine ws_seqN Shift_n1 Shift_n2 rfl rfl rfl ?_
 refine ws_region rfl ?_
 refine wla 0 1 rfl rfl rfl rfl rfl rfl rfl ?_
 refine wl_end rfl ?_
 refine nm_sub [(0, _), (1, _), (2, _)] ⟨rfl, rfl, rfl, trivial⟩ ?_
 refine nm_thn ?_
 refine ws_seqN Shift_n3 Shift_n4 rfl rfl rfl ?_
 refine ws_region rfl ?_
 refine wlo 0 1 rfl rfl rfl (wo_makeMap Int Int (Value.int .i64) (Value.int .i64) rfl rfl rfl S ?_)
 intro gm1 w1 S1; clear S
 refine wla 1 2 rfl rfl rfl rfl rfl rfl rfl ?_
 refine wl_end rfl ?_
 refine nm_sub [(0, _), (1, _), (2, _), (7, _)] ⟨rfl, rfl, rfl, rfl, trivial⟩ ?_
 refine nm_thn ?_
 refine ws_seqN Shift_n5 Shift_n6 rfl rfl rfl ?_
 refine ws_seqN Shift_n7 Shift_n8 rfl rfl rfl ?_
 refine ws_region rfl ?_
 refine wlm 0 1 rfl rfl rfl rfl rfl rfl rfl ?_
 obtain ⟨arr1, clk1, hE1⟩ := hmws.ents
 refine wlo 1 2 rfl rfl rfl (wo_range rfl rfl rfl rfl Tryd.underlying38 S1 hE1 S1.m ?_)
 intro r1 w2 S2; clear S1
 refine wl_end rfl ?_
 refine nm_sub [(1, _), (2, _), (7, _), (12, _)] ⟨rfl, rfl, rfl, rfl, trivial⟩ ?_
 refine nm_thn ?_
 refine ws_blockN Shift_n9 0 rfl rfl rfl ?_
 refine ws_loopE (fun mx_ ax_ wx_ => ∃ (sn : Array Nat) (dn : List (Int × Int)) (lf : List (Int × Int)) (es : List (Int × Int)), mx_ = lf.length ∧ Env 26 [(1, .int .i64 e), (2, .int .i64 c), (7, .map (some gm1)), (12, .pointer (some ⟨r1, 0, none⟩))] ax_ ∧ SH wx_ M X [Rs.itr gws clk1 r1 sn, Rs.mp (Value.int .i64) (Value.int .i64) gm1 es] ∧ Lft (Value.int .i64) (Value.int .i64) arr1 sn lf ∧ (dn ++ lf).Perm ws ∧ Ents es (B + E) ∧ mk es = mk dn * mono e c ∧ es.map Prod.fst = dn.map fun q => q.1 + e) rfl ?_ ?_
 ·intro ax_ hax_
  refine ⟨_, ⟨#[], [], ws, [], rfl, hax_.sub ⟨rfl, rfl, rfl, rfl, trivial⟩, S2.pick [0, 1] [_, _] (by decide) ⟨rfl, rfl, trivial⟩, ?hq1f0, ?hq1f1, ?hq1f2, ?hq1f3, ?hq1f4⟩⟩
  case hq1f0 => exact hE1.lft
  case hq1f1 => exact List.Perm.refl _
  case hq1f2 => exact Ents.nil_ _
  case hq1f3 => exact (Pol.zero_mul _).symm
  case hq1f4 => rfl
 ·rintro m2 a1 w3 ⟨sn, dn, lf, es, rfl, he1, S3, hlf, hpm, hes, hmk, hky⟩
  clear S2
  refine ws_in he1 (c := Shift_n10) rfl ?_
  clear he1 a1
  refine ws_seqN Shift_n11 Shift_n12 rfl rfl rfl ?_
  refine ws_region rfl ?_
  refine wlo 0 1 rfl rfl rfl (wo_next (i := 0) rfl rfl rfl rfl S3 rfl hE1 S3.m hlf (fun hlf1 => ?_) (fun k1 v1 l1_1 l2_1 sn1 w4 hlf1 hlft1 hlst1 S4 => ?_))
  ·refine wlo 1 2 rfl rfl rfl (wo_run rfl rfl (run_extract rfl rfl rfl) ?_)
   refine wl_end rfl ?_
   refine nm_sub [(1, _), (2, _), (7, _), (12, _), (14, _)] ⟨rfl, rfl, rfl, rfl, rfl, trivial⟩ ?_
   refine nm_thn ?_
   refine ws_seqN Shift_n13 Shift_n14 rfl rfl rfl ?_
   refine ws_condFN Shift_n16 rfl rfl rfl ?_
   refine ws_exit rfl rfl ?_
   refine nm_sub [(7, _)] ⟨rfl, trivial⟩ ?_
   refine nm_thn ?_
   refine ws_seqN Shift_n17 Shift_n18 rfl rfl rfl ?_
   refine ws_region rfl ?_
   refine wlm 0 1 rfl rfl rfl rfl rfl rfl rfl ?_
   refine wla 1 2 rfl rfl rfl rfl rfl rfl rfl ?_
   refine wl_end rfl ?_
   refine nm_sub [(6, _)] ⟨rfl, trivial⟩ ?_
   refine nm_thn ?_
   obtain ⟨M1, hle2, S5, hm1⟩ := S3.pubmap (i := 1) (H' := [_, _]) rfl rfl; clear S3
   replace hmws := hmws.mono hle2
   replace hE1 := hE1.mono hle2
   refine ws_ret hC [_] rfl rfl ⟨rfl, trivial⟩ ?_
   refine ⟨_, rfl, _, hle2, (S5.pick [] [] (by decide) trivial), ?_⟩
   obtain rfl : lf = [] := hlf1
   rw [List.append_nil] at hpm
   exact ⟨_, rfl, _, hm1, hes, by rw [hmk, mk_perm hpm]⟩
  ·clear S3
   change SH _ _ _ [Rs.itr gws clk1 r1 sn1, _] at S4
   refine wlo 1 2 rfl rfl rfl (wo_run rfl rfl (run_extract rfl rfl rfl) ?_)
   refine wl_end rfl ?_
   refine nm_sub [(1, _), (2, _), (7, _), (12, _), (14, _)] ⟨rfl, rfl, rfl, rfl, rfl, trivial⟩ ?_
   refine nm_thn ?_
   refine ws_seqN Shift_n13 Shift_n14 rfl rfl rfl ?_
   refine ws_condTN Shift_n15 rfl rfl rfl ?_
   refine ws_skip rfl ?_
   refine nm_sub [(1, _), (2, _), (7, _), (12, _)] ⟨rfl, rfl, rfl, rfl, trivial⟩ ?_
   refine nm_thn ?_
   refine ws_blockN Shift_n19 1 rfl rfl rfl ?_
   refine ws_seqN Shift_n20 Shift_n21 rfl rfl rfl ?_
   refine ws_region rfl ?_
   refine wlo 0 1 rfl rfl rfl (wo_run rfl rfl (run_entry (i := 0) rfl rfl S4 rfl hE1 S4.m hlst1) ?_)
   refine wlo 1 2 rfl rfl rfl (wo_run rfl rfl (run_extract rfl rfl rfl) ?_)
   refine wlo 2 3 rfl rfl rfl (wo_run rfl rfl (run_extract rfl rfl rfl) ?_)
   refine wla 3 4 rfl rfl rfl rfl rfl rfl rfl ?_
   refine wla 4 5 rfl rfl rfl rfl rfl rfl rfl ?_
   refine wl_end rfl ?_
   refine nm_sub [(1, _), (2, _), (7, _), (12, _), (8, _), (9, _)] ⟨rfl, rfl, rfl, rfl, rfl, rfl, trivial⟩ ?_
   refine nm_thn ?_
   have hk1 := (hws.at_ hpm hlf1).1
   refine ws_region rfl ?_
   refine wlm 0 1 rfl rfl rfl rfl rfl rfl rfl ?_
   refine wlm 1 2 rfl rfl rfl rfl rfl rfl rfl ?_
   refine wlm 2 3 rfl rfl rfl rfl rfl rfl rfl ?_
   refine wlo 3 4 rfl rfl rfl (wo_run rfl rfl (run_add rfl rfl rfl (by first | omega | (simp only [lens]; omega))) ?_)
   refine wlm 4 5 rfl rfl rfl rfl rfl rfl rfl ?_
   refine wlm 5 6 rfl rfl rfl rfl rfl rfl rfl ?_
   refine wlo 6 7 rfl rfl rfl (wo_run rfl rfl (run_mulW rfl rfl rfl) ?_)
   refine wlo 7 8 rfl rfl rfl (wo_mapUpdate (kc := Value.int .i64) (vc := Value.int .i64) (es := es) (k := (k1 + e)) (e := (wr (v1 * c))) (i := 1) (H' := [_, _]) (.inl rfl) rfl S4 rfl rfl rfl rfl Tryd.underlying38 mk3 rfl ?_)
   intro w5 S6; clear S4
   refine wl_end rfl ?_
   refine nm_blk ?_
   refine nm_lp ?_
   intro ax_ hax_
   refine ⟨_, ?hq2m, ⟨sn1, dn ++ [(k1, v1)], l1_1 ++ l2_1, _, rfl, hax_.sub ⟨rfl, rfl, rfl, rfl, trivial⟩, S6.pick [0, 1] [_, _] (by decide) ⟨rfl, rfl, trivial⟩, ?hq2f0, ?hq2f1, ?hq2f2, ?hq2f3, ?hq2f4⟩⟩
   case hq2f0 => assumption
   case hq2f1 => (refine List.Perm.trans ?_ hpm; simp only [*, List.append_assoc, List.cons_append, List.nil_append]; exact (List.perm_append_left_iff _).2 (List.perm_middle.symm))
   case hq2f2 => exact mp_ents hes (by omega) (wr_idem _)
   case hq2f3 => exact (shift_step hws.1 hpm (by assumption) hky hmk).1
   case hq2f4 => exact (shift_step hws.1 hpm (by assumption) hky hmk).2
   case hq2m => (simp only [*, List.length_append, List.length_cons]; omega)
theorem FormW_t {w : World} {M : Hp} {X : Fr} {g B : Nat} {p : Pol} (h : Wk M g B p) (hB : B ≤ 1099511627776) (S : SH w M X []) : Ct Tryd.prog 13 [.map (some g)] w M X (PT B p) := by
 obtain ⟨es, h1, h2, rfl⟩ := h
 unfold Ct
 refine (Form_t es h1 B h2 hB S).mono ?_
 rintro e w' ⟨v, rfl, M', hle, S', A, c, rfl, hr⟩
 exact ⟨_, rfl, M', hle, S', A, c, _, rfl, hr, formL_can h2 hB, formL_bd h2, mk_formL h2⟩
theorem PlusW_t {w : World} {M : Hp} {X : Fr} {g g2 B C : Nat} {p q : Pol} (h : Wk M g B p) (k : Wk M g2 C q) (D : Nat) (hB : B ≤ D) (hC : C ≤ D) (hD : D ≤ 1099511627776) (S : SH w M X []) : Ct Tryd.prog 25 [.map (some g), .map (some g2)] w M X (WkR D (p + q)) := by
 obtain ⟨es, h1, h2, rfl⟩ := h.up hB
 obtain ⟨fs, k1, k2, rfl⟩ := k.up hC
 exact Plus_t es fs h1 k1 D h2 k2 S
theorem TimesW_t {w : World} {M : Hp} {X : Fr} {g g2 B C : Nat} {p q : Pol} (h : Wk M g B p) (k : Wk M g2 C q) (hB : B + C ≤ 1099511627776) (S : SH w M X []) : Ct Tryd.prog 24 [.map (some g), .map (some g2)] w M X (WkR (B + C) (p * q)) := by
 obtain ⟨es, h1, h2, rfl⟩ := h
 obtain ⟨fs, k1, k2, rfl⟩ := k
 exact Times_t es fs h1 k1 B C h2 k2 hB S
theorem ShiftW_t {w : World} {M : Hp} {X : Fr} {g B : Nat} {p : Pol} (h : Wk M g B p) (e c : Int) (E : Nat) (he : -(E : Int) ≤ e ∧ e ≤ E) (hB : B + E ≤ 1099511627776) (S : SH w M X []) : Ct Tryd.prog 15 [.map (some g), .int .i64 e, .int .i64 c] w M X (WkR (B + E) (p * mono e c)) := by
 obtain ⟨es, h1, h2, rfl⟩ := h
 exact Shift_t es e c h1 B E h2 he hB S
end Go.Proofs.YtlmcnpbkmihjkaaDoor
