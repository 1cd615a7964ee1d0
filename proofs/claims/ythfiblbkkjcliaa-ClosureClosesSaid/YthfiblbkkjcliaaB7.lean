/- Walks printed by eng.py. -/
import Derived.Test.YthfiblbkkjcliaaB6
set_option linter.unusedSimpArgs false
set_option linter.unusedVariables false
namespace Go.Proofs.Ythfiblbkkjcliaa
open Go.ChangeShapes Go.WideShapes Go.ChangeAt Go.RowKit
/-- Two neighbours change places. -/
def whoS (w : List Int) (x : Int) : List Int := (w.set (max x (-x) - 1).toNat (ga w ((max x (-x) - 1).toNat + 1))).set ((max x (-x) - 1).toNat + 1) (ga w (max x (-x) - 1).toNat)
def rgL (n : Nat) : List Int := (List.range n).map (fun (i : Nat) => (i : Int))
def whoP (n : Nat) (l : List Int) : List Int := l.foldl whoS (rgL n)
def outP (n : Nat) (w : List Int) (k : Nat) : List Int := (List.range k).foldl (fun o (i : Nat) => o.set (ga w i).toNat ((i : Int) + 1)) (List.replicate n 0)
theorem whoP_take (n : Nat) (w : List Int) (k : Nat) (h : k < w.length) : whoP n (w.take (k + 1)) = whoS (whoP n (w.take k)) (ga w k) := by
  unfold whoP; rw [take_ga _ _ h, List.foldl_append]; rfl
theorem outP_succ (n : Nat) (w : List Int) (k : Nat) : outP n w (k + 1) = (outP n w k).set (ga w k).toNat ((k : Int) + 1) := by
  unfold outP; rw [List.range_succ, List.foldl_append]; rfl
theorem outP_len (n : Nat) (w : List Int) (k : Nat) : (outP n w k).length = n := by
  induction k with
  | zero => simp [outP]
  | succ k ih => rw [outP_succ]; simpa using ih
def okW (n : Nat) (w : List Int) : Prop := w.length = n ∧ ∀ i, i < n → 0 ≤ ga w i ∧ ga w i < n
theorem okW.rg (n : Nat) : okW n (rgL n) := by
  refine ⟨by simp [rgL], fun i hi => ?_⟩
  have e : ga (rgL n) i = (i : Int) := by rw [ga_eq (by simpa [rgL] using hi)]; simp [rgL]
  rw [e]; omega
theorem okW.step {n : Nat} {w : List Int} (h : okW n w) {x : Int} (hx : 1 ≤ max x (-x) ∧ max x (-x) < n) : okW n (whoS w x) := by
  obtain ⟨hl, hw⟩ := h
  refine ⟨by simp [whoS, hl], fun i hi => ?_⟩
  unfold whoS
  rw [ga_set _ _ _ _ (by simp; omega)]
  split
  · exact hw _ (by omega)
  · rw [ga_set _ _ _ _ (by omega)]
    split
    · exact hw _ (by omega)
    · exact hw _ hi

noncomputable def EndsOf_n0 : Code := Try.f12.body.getD .skip
noncomputable def EndsOf_n1 : Code := cL EndsOf_n0
noncomputable def EndsOf_n2 : Code := cR EndsOf_n0
noncomputable def EndsOf_n3 : Code := cL EndsOf_n2
noncomputable def EndsOf_n4 : Code := cR EndsOf_n2
noncomputable def EndsOf_n5 : Code := cL EndsOf_n4
noncomputable def EndsOf_n6 : Code := cR EndsOf_n4
noncomputable def EndsOf_n7 : Code := cL EndsOf_n5
noncomputable def EndsOf_n8 : Code := cR EndsOf_n5
noncomputable def EndsOf_n9 : Code := cL EndsOf_n8
noncomputable def EndsOf_n10 : Code := cL EndsOf_n9
noncomputable def EndsOf_n11 : Code := cL EndsOf_n10
noncomputable def EndsOf_n12 : Code := cR EndsOf_n10
noncomputable def EndsOf_n13 : Code := cL EndsOf_n11
noncomputable def EndsOf_n14 : Code := cR EndsOf_n11
noncomputable def EndsOf_n15 : Code := cL EndsOf_n14
noncomputable def EndsOf_n16 : Code := cR EndsOf_n14
noncomputable def EndsOf_n17 : Code := cL EndsOf_n12
noncomputable def EndsOf_n18 : Code := cR EndsOf_n12
noncomputable def EndsOf_n19 : Code := cL EndsOf_n17
noncomputable def EndsOf_n20 : Code := cL EndsOf_n6
noncomputable def EndsOf_n21 : Code := cR EndsOf_n6
noncomputable def EndsOf_n22 : Code := cL EndsOf_n20
noncomputable def EndsOf_n23 : Code := cR EndsOf_n20
noncomputable def EndsOf_n24 : Code := cL EndsOf_n23
noncomputable def EndsOf_n25 : Code := cL EndsOf_n24
noncomputable def EndsOf_n26 : Code := cL EndsOf_n25
noncomputable def EndsOf_n27 : Code := cR EndsOf_n25
noncomputable def EndsOf_n28 : Code := cL EndsOf_n26
noncomputable def EndsOf_n29 : Code := cR EndsOf_n26
noncomputable def EndsOf_n30 : Code := cL EndsOf_n29
noncomputable def EndsOf_n31 : Code := cR EndsOf_n29
noncomputable def EndsOf_n32 : Code := cL EndsOf_n27
noncomputable def EndsOf_n33 : Code := cR EndsOf_n27
noncomputable def EndsOf_n34 : Code := cL EndsOf_n32
noncomputable def EndsOf_n35 : Code := cL EndsOf_n34
noncomputable def EndsOf_n36 : Code := cR EndsOf_n34
noncomputable def EndsOf_n37 : Code := cL EndsOf_n21
noncomputable def EndsOf_n38 : Code := cR EndsOf_n21
noncomputable def EndsOf_n39 : Code := cL EndsOf_n38
noncomputable def EndsOf_n40 : Code := cR EndsOf_n38
noncomputable def EndsOf_n41 : Code := cL EndsOf_n39
noncomputable def EndsOf_n42 : Code := cR EndsOf_n39
noncomputable def EndsOf_n43 : Code := cL EndsOf_n42
noncomputable def EndsOf_n44 : Code := cL EndsOf_n43
noncomputable def EndsOf_n45 : Code := cL EndsOf_n44
noncomputable def EndsOf_n46 : Code := cR EndsOf_n44
noncomputable def EndsOf_n47 : Code := cL EndsOf_n45
noncomputable def EndsOf_n48 : Code := cR EndsOf_n45
noncomputable def EndsOf_n49 : Code := cL EndsOf_n48
noncomputable def EndsOf_n50 : Code := cR EndsOf_n48
noncomputable def EndsOf_n51 : Code := cL EndsOf_n46
noncomputable def EndsOf_n52 : Code := cR EndsOf_n46
noncomputable def EndsOf_n53 : Code := cL EndsOf_n51
noncomputable def EndsOf_n54 : Code := cL EndsOf_n40
noncomputable def EndsOf_n55 : Code := cR EndsOf_n40
set_option maxRecDepth 10000 in
theorem EndsOf_t {w : World} {M : Hp} {X : Fr} (m : Nat) (l : List Int) {lA : Option Addr} {lc : Nat} (hl : RdA cdInt (M.un X.h) lA lc l) (hm : m ≤ 6) (hwl : l.length ≤ 20) (hwb : ∀ i, i < l.length → 1 ≤ max (ga l i) (-(ga l i)) ∧ max (ga l i) (-(ga l i)) < m) (S : SH w M X []) : Ct Try.prog 12 [.int .i64 (m : Int), .slice lA l.length lc] w M X (IsE (outP m (whoP m l) m)) := by
  unfold Ct
  have rmhl : l.length * 8 ≤ 140737488355328 := hl.room
  have hrep : (List.replicate m cdInt.z).length = m := List.length_replicate
  refine calls_in (b := EndsOf_n0) Try.func12 rfl Try.ntmps12 rfl (fun C hC => ?_)
  refine ws_sub [(0, _), (1, _)] ⟨rfl, rfl, trivial⟩ ?_
  refine ws_seqN EndsOf_n1 EndsOf_n2 rfl rfl rfl ?_
  refine ws_region rfl ?_
  refine wl_op (k := 0) (k' := 1) rfl rfl rfl (wo_run rfl rfl (run_assign rfl rfl) ?_)
  refine wl_end rfl ?_
  refine nm_sub [(0, _), (1, _)] ⟨rfl, rfl, trivial⟩ ?_
  refine nm_thn ?_
  refine ws_seqN EndsOf_n3 EndsOf_n4 rfl rfl rfl ?_
  refine ws_region rfl ?_
  refine wl_op (k := 0) (k' := 1) rfl rfl rfl (wo_run rfl rfl (run_move rfl rfl) ?_)
  refine wl_op (k := 1) (k' := 2) rfl rfl rfl (wo_make (C := cdInt) m rfl rfl rfl rfl rfl sl22 (by first | rfl | omega) (by show _ * 8 ≤ _; first | omega | (simp only [List.length_set, List.length_append, List.length_replicate, List.length_singleton, List.length_cons, List.length_nil]; omega)) S ?_)
  intro vr1 w1 S1; clear S
  refine wl_op (k := 2) (k' := 3) rfl rfl rfl (wo_run rfl rfl (run_assign rfl rfl) ?_)
  refine wl_end rfl ?_
  refine nm_sub [(0, _), (1, _), (5, _)] ⟨rfl, rfl, rfl, trivial⟩ ?_
  refine nm_thn ?_
  refine ws_seqN EndsOf_n5 EndsOf_n6 rfl rfl rfl ?_
  refine ws_seqN EndsOf_n7 EndsOf_n8 rfl rfl rfl ?_
  refine ws_region rfl ?_
  refine wl_op (k := 0) (k' := 1) rfl rfl rfl (wo_run rfl rfl (run_assign rfl rfl) ?_)
  refine wl_end rfl ?_
  refine nm_thn ?_
  refine ws_blockN EndsOf_n9 0 rfl rfl rfl ?_
  refine ws_loopE (fun mx_ ax_ wx_ => ∃ (k : Nat) (acc : List Int) (vro : Value), mx_ = m - k ∧ Env 65 [(0, .int .i64 (m : Int)), (1, .slice lA l.length lc), (5, vro), (6, .int .i64 (k : Int))] ax_ ∧ SH wx_ M X [Rs.row cdInt vro acc] ∧ k ≤ m ∧ acc.length = m ∧ (∀ j, j < k → ga acc j = (j : Int))) rfl ?_ ?_
  · intro ax_ hax_
    refine ⟨_, ⟨0, _, _, rfl, hax_.sub ⟨rfl, rfl, rfl, rfl, trivial⟩, S1.pick [0] [_] (by decide) ⟨rfl, trivial⟩, ?hq1f0, ?hq1f1, ?hq1f2⟩⟩
    case hq1f0 => omega
    case hq1f1 => simp
    case hq1f2 => (intro j h1; omega)
  · rintro m1 a1 w2 ⟨k, acc, vro, rfl, he1, S2, hk, hal, hg⟩
    clear S1
    refine ws_in he1 (c := EndsOf_n10) rfl ?_
    clear he1 a1
    refine ws_seqN EndsOf_n11 EndsOf_n12 rfl rfl rfl ?_
    refine ws_seqN EndsOf_n13 EndsOf_n14 rfl rfl rfl ?_
    refine ws_region rfl ?_
    refine wl_op (k := 0) (k' := 1) rfl rfl rfl (wo_run rfl rfl (run_move rfl rfl) ?_)
    refine wl_op (k := 1) (k' := 2) rfl rfl rfl (wo_run rfl rfl (run_move rfl rfl) ?_)
    refine wl_op (k := 2) (k' := 3) rfl rfl rfl (wo_run rfl rfl (run_lss rfl rfl rfl) ?_)
    refine wl_end rfl ?_
    refine nm_sub [(0, _), (1, _), (5, _), (6, _), (15, _)] ⟨rfl, rfl, rfl, rfl, rfl, trivial⟩ ?_
    refine nm_thn ?_
    refine ws_condN EndsOf_n15 EndsOf_n16 rfl rfl rfl rfl (fun hb15 => ?_) (fun hb15 => ?_)
    · have hb15 := of_decide_eq_true hb15
      refine ws_skip rfl ?_
      refine nm_sub [(0, _), (1, _), (5, _), (6, _)] ⟨rfl, rfl, rfl, rfl, trivial⟩ ?_
      refine nm_thn ?_
      refine ws_seqN EndsOf_n17 EndsOf_n18 rfl rfl rfl ?_
      refine ws_blockN EndsOf_n19 1 rfl rfl rfl ?_
      refine ws_region rfl ?_
      refine wl_op (k := 0) (k' := 1) rfl rfl rfl (wo_run rfl rfl (run_move rfl rfl) ?_)
      refine wl_op (k := 1) (k' := 2) rfl rfl rfl (wo_run rfl rfl (run_move rfl rfl) ?_)
      refine wl_op (k := 2) (k' := 3) rfl rfl rfl (wo_run rfl rfl (run_move rfl rfl) ?_)
      refine wl_op (k := 3) (k' := 4) rfl rfl rfl (wo_run rfl rfl (run_indexR (C := cdInt) (i := 0) k rfl rfl rfl sl22 S2 rfl (by first | rfl | omega) (by first | omega | (simp only [List.length_set, List.length_append, List.length_replicate, List.length_singleton, List.length_cons, List.length_nil]; omega))) ?_)
      refine wl_op (k := 4) (k' := 5) rfl rfl rfl (wo_storeR (C := cdInt) (i := 0) (e := k) (j := 0) (us := [_]) (H' := [_]) (k : Int) rfl rfl S2 rfl (by first | omega | (simp only [List.length_set, List.length_append, List.length_replicate, List.length_singleton, List.length_cons, List.length_nil]; omega)) rfl rfl rfl sz3 rfl rfl rfl rfl ?_)
      intro w3 S3; clear S2
      refine wl_end rfl ?_
      refine nm_blk ?_
      refine nm_sub [(0, _), (1, _), (5, _), (6, _)] ⟨rfl, rfl, rfl, rfl, trivial⟩ ?_
      refine nm_thn ?_
      refine ws_region rfl ?_
      refine wl_op (k := 0) (k' := 1) rfl rfl rfl (wo_run rfl rfl (run_move rfl rfl) ?_)
      refine wl_op (k := 1) (k' := 2) rfl rfl rfl (wo_run rfl rfl (run_add rfl rfl rfl (by first | omega | (simp only [List.length_set, List.length_append, List.length_replicate, List.length_singleton, List.length_cons, List.length_nil]; omega))) ?_)
      refine wl_op (k := 2) (k' := 3) rfl rfl rfl (wo_run rfl rfl (run_assign rfl rfl) ?_)
      refine wl_end rfl ?_
      refine nm_lp ?_
      intro ax_ hax_
      refine ⟨_, ?hq2m, ⟨k + 1, _, _, rfl, hax_.sub ⟨rfl, rfl, rfl, rfl, trivial⟩, S3.pick [0] [_] (by decide) ⟨rfl, trivial⟩, ?hq2f0, ?hq2f1, ?hq2f2⟩⟩
      case hq2f0 => omega
      case hq2f1 => simpa using hal
      case hq2f2 => (intro j h1; rw [ga_set _ _ _ _ (by omega)]; split; (rename_i e; rw [e]); exact hg j (by omega))
      case hq2m => omega
    · have hb15 := of_decide_eq_false hb15
      refine ws_exit rfl rfl ?_
      refine nm_sub [(0, _), (1, _), (5, _)] ⟨rfl, rfl, rfl, trivial⟩ ?_
      refine nm_thn ?_
      refine ws_seqN EndsOf_n20 EndsOf_n21 rfl rfl rfl ?_
      refine ws_seqN EndsOf_n22 EndsOf_n23 rfl rfl rfl ?_
      refine ws_region rfl ?_
      refine wl_op (k := 0) (k' := 1) rfl rfl rfl (wo_run rfl rfl (run_assign rfl rfl) ?_)
      refine wl_end rfl ?_
      refine nm_thn ?_
      refine ws_blockN EndsOf_n24 2 rfl rfl rfl ?_
      refine ws_loopE (fun mx_ ax_ wx_ => ∃ (k2 : Nat) (wh : List Int) (vrp : Value), mx_ = l.length - k2 ∧ Env 65 [(0, .int .i64 (m : Int)), (1, .slice lA l.length lc), (5, vrp), (7, .int .i64 (k2 : Int))] ax_ ∧ SH wx_ M X [Rs.row cdInt vrp wh] ∧ k2 ≤ l.length ∧ wh = whoP m (l.take k2) ∧ okW m wh) rfl ?_ ?_
      · have hrg : acc = rgL m := ga_ext (by rw [hal]; simp [rgL]) fun i hi => by rw [hg i (by omega), ga_eq (by simp [rgL]; omega)]; simp [rgL]
        intro ax_ hax_
        refine ⟨_, ⟨0, _, _, rfl, hax_.sub ⟨rfl, rfl, rfl, rfl, trivial⟩, S2.pick [0] [_] (by decide) ⟨rfl, trivial⟩, ?hq3f0, ?hq3f1, ?hq3f2⟩⟩
        case hq3f0 => omega
        case hq3f1 => exact hrg
        case hq3f2 => (rw [hrg]; exact okW.rg m)
      · rintro m2 a2 w4 ⟨k2, wh, vrp, rfl, he2, S4, hk2, hwh, hok⟩
        clear S2
        refine ws_in he2 (c := EndsOf_n25) rfl ?_
        clear he2 a2
        have hl2 := hok.1
        have hwk := fun h => hwb k2 h
        refine ws_seqN EndsOf_n26 EndsOf_n27 rfl rfl rfl ?_
        refine ws_seqN EndsOf_n28 EndsOf_n29 rfl rfl rfl ?_
        refine ws_region rfl ?_
        refine wl_op (k := 0) (k' := 1) rfl rfl rfl (wo_run rfl rfl (run_move rfl rfl) ?_)
        refine wl_op (k := 1) (k' := 2) rfl rfl rfl (wo_run rfl rfl (run_move rfl rfl) ?_)
        refine wl_op (k := 2) (k' := 3) rfl rfl rfl (wo_run rfl rfl (run_len rfl rfl rfl rfl rfl rfl Try.underlying22) ?_)
        refine wl_op (k := 3) (k' := 4) rfl rfl rfl (wo_run rfl rfl (run_lss rfl rfl rfl) ?_)
        refine wl_end rfl ?_
        refine nm_sub [(0, _), (1, _), (5, _), (7, _), (25, _)] ⟨rfl, rfl, rfl, rfl, rfl, trivial⟩ ?_
        refine nm_thn ?_
        refine ws_condN EndsOf_n30 EndsOf_n31 rfl rfl rfl rfl (fun hb25 => ?_) (fun hb25 => ?_)
        · have hb25 := of_decide_eq_true hb25
          refine ws_skip rfl ?_
          refine nm_sub [(0, _), (1, _), (5, _), (7, _)] ⟨rfl, rfl, rfl, rfl, trivial⟩ ?_
          refine nm_thn ?_
          refine ws_seqN EndsOf_n32 EndsOf_n33 rfl rfl rfl ?_
          refine ws_blockN EndsOf_n34 3 rfl rfl rfl ?_
          refine ws_seqN EndsOf_n35 EndsOf_n36 rfl rfl rfl ?_
          refine ws_region rfl ?_
          refine wl_op (k := 0) (k' := 1) rfl rfl rfl (wo_run rfl rfl (run_move rfl rfl) ?_)
          refine wl_op (k := 1) (k' := 2) rfl rfl rfl (wo_run rfl rfl (run_move rfl rfl) ?_)
          refine wl_op (k := 2) (k' := 3) rfl rfl rfl (wo_run rfl rfl (run_indexM (C := cdInt) k2 rfl rfl rfl sl22 (by first | rfl | omega) hl (by first | omega | (simp only [List.length_set, List.length_append, List.length_replicate, List.length_singleton, List.length_cons, List.length_nil]; omega))) ?_)
          refine wl_op (k := 3) (k' := 4) rfl rfl rfl (wo_run rfl rfl (run_load1 rfl rfl Try.underlying3 rfl (hl.cell S4.um (i := k2) (by first | omega | (simp only [List.length_set, List.length_append, List.length_replicate, List.length_singleton, List.length_cons, List.length_nil]; omega)) 0 rfl rfl)) ?_)
          refine wl_op (k := 4) (k' := 5) rfl rfl rfl (wo_cq rfl rfl rfl rfl rfl rfl rfl cf29 S4 (abs_q (ga l k2) (by omega) S4.lend) ?_)
          rintro _ w5 S5 rfl; clear S4
          refine wl_op (k := 5) (k' := 6) rfl rfl rfl (wo_run rfl rfl (run_assign rfl rfl) ?_)
          refine wl_end rfl ?_
          refine nm_sub [(0, _), (1, _), (5, _), (7, _), (8, _)] ⟨rfl, rfl, rfl, rfl, rfl, trivial⟩ ?_
          refine nm_thn ?_
          refine ws_eq 8 (.int .i64 (((max (ga l k2) (-(ga l k2)) - 1).toNat + 1 : Nat) : Int)) rfl (int_eq (by omega)) ?_
          refine ws_draw rfl (by kernel_rfl) S5 18 rfl ?_
          clear S5
          refine wa_takeP (i := 0) (d := 33) 17 rfl (by kernel_rfl) (by kernel_rfl) (by kernel_rfl) rfl rfl rfl (fun w6 => run_move rfl rfl) ?_
          refine wa_takeP (i := 1) (d := 34) 16 rfl (by kernel_rfl) (by kernel_rfl) (by kernel_rfl) rfl rfl rfl (fun w7 => run_move rfl rfl) ?_
          refine wa_takeP (i := 2) (d := 35) 15 rfl (by kernel_rfl) (by kernel_rfl) (by kernel_rfl) rfl rfl rfl (fun w8 => run_sub rfl rfl rfl (by first | omega | (simp only [List.length_set, List.length_append, List.length_replicate, List.length_singleton, List.length_cons, List.length_nil]; omega))) ?_
          refine wa_takeP (i := 3) (d := 36) 14 rfl (by kernel_rfl) (by kernel_rfl) (by kernel_rfl) rfl rfl rfl (fun w9 => run_move rfl rfl) ?_
          refine wa_takeP (i := 4) (d := 37) 13 rfl (by kernel_rfl) (by kernel_rfl) (by kernel_rfl) rfl rfl rfl (fun w10 => run_move rfl rfl) ?_
          refine wa_takeP (i := 5) (d := 38) 12 rfl (by kernel_rfl) (by kernel_rfl) (by kernel_rfl) rfl rfl rfl (fun w11 => run_move rfl rfl) ?_
          refine wa_takeP (i := 6) (d := 39) 11 rfl (by kernel_rfl) (by kernel_rfl) (by kernel_rfl) rfl rfl rfl (fun w12 => run_move rfl rfl) ?_
          refine wa_take (i := 7) (d := 40) 10 rfl (by kernel_rfl) (by kernel_rfl) (by kernel_rfl) rfl rfl rfl (fun M8 N8 w13 hle10 S13 => .inl (run_indexR (C := cdInt) (i := 0) ((max (ga l k2) (-(ga l k2)) - 1).toNat + 1) rfl rfl rfl sl22 S13.suf rfl (by first | rfl | omega) (by first | omega | (simp only [List.length_set, List.length_append, List.length_replicate, List.length_singleton, List.length_cons, List.length_nil]; omega)))) ?_
          refine wa_take (i := 8) (d := 41) 9 rfl (by kernel_rfl) (by kernel_rfl) (by kernel_rfl) rfl rfl rfl (fun M9 N9 w14 hle11 S14 => .inl (run_load1 rfl rfl Try.underlying3 rfl (S14.suf.rowc (i := 0) (e := (max (ga l k2) (-(ga l k2)) - 1).toNat + 1) (j := 0) rfl (by first | omega | (simp only [List.length_set, List.length_append, List.length_replicate, List.length_singleton, List.length_cons, List.length_nil]; omega)) rfl rfl))) ?_
          refine wa_takeP (i := 9) (d := 42) 8 rfl (by kernel_rfl) (by kernel_rfl) (by kernel_rfl) rfl rfl rfl (fun w15 => run_move rfl rfl) ?_
          refine wa_takeP (i := 10) (d := 43) 7 rfl (by kernel_rfl) (by kernel_rfl) (by kernel_rfl) rfl rfl rfl (fun w16 => run_move rfl rfl) ?_
          refine wa_takeP (i := 11) (d := 44) 6 rfl (by kernel_rfl) (by kernel_rfl) (by kernel_rfl) rfl rfl rfl (fun w17 => run_sub rfl rfl rfl (by first | omega | (simp only [List.length_set, List.length_append, List.length_replicate, List.length_singleton, List.length_cons, List.length_nil]; omega))) ?_
          refine wa_take (i := 12) (d := 45) 5 rfl (by kernel_rfl) (by kernel_rfl) (by kernel_rfl) rfl rfl rfl (fun M13 N13 w18 hle15 S18 => .inl (run_indexR (C := cdInt) (i := 0) ((max (ga l k2) (-(ga l k2)) - 1).toNat) rfl rfl rfl sl22 S18.suf rfl (by first | rfl | omega) (by first | omega | (simp only [List.length_set, List.length_append, List.length_replicate, List.length_singleton, List.length_cons, List.length_nil]; omega)))) ?_
          refine wa_take (i := 13) (d := 46) 4 rfl (by kernel_rfl) (by kernel_rfl) (by kernel_rfl) rfl rfl rfl (fun M14 N14 w19 hle16 S19 => .inl (run_load1 rfl rfl Try.underlying3 rfl (S19.suf.rowc (i := 0) (e := (max (ga l k2) (-(ga l k2)) - 1).toNat) (j := 0) rfl (by first | omega | (simp only [List.length_set, List.length_append, List.length_replicate, List.length_singleton, List.length_cons, List.length_nil]; omega)) rfl rfl))) ?_
          refine wa_take (i := 14) (d := 47) 3 rfl (by kernel_rfl) (by kernel_rfl) (by kernel_rfl) rfl rfl rfl (fun M15 N15 w20 hle17 S20 => .inl (run_indexR (C := cdInt) (i := 0) ((max (ga l k2) (-(ga l k2)) - 1).toNat) rfl rfl rfl sl22 S20.suf rfl (by first | rfl | omega) (by first | omega | (simp only [List.length_set, List.length_append, List.length_replicate, List.length_singleton, List.length_cons, List.length_nil]; omega)))) ?_
          refine wa_only (i := 15) 2 rfl (by kernel_rfl) rfl rfl (fun w22 S22 => ?_)
          refine (wo_storeR (C := cdInt) (i := 0) (e := (max (ga l k2) (-(ga l k2)) - 1).toNat) (j := 0) (us := [_]) (H' := [_]) (ga wh ((max (ga l k2) (-(ga l k2)) - 1).toNat + 1)) rfl rfl S22 rfl (by first | omega | (simp only [List.length_set, List.length_append, List.length_replicate, List.length_singleton, List.length_cons, List.length_nil]; omega)) rfl rfl rfl sz3 rfl rfl rfl rfl ?_)
          intro w23 S23; clear S22
          refine LeftW.turn (by kernel_rfl) S23 ?_; clear S23
          change WA _ _ _ _ _ _ _ _ _ _ _ _ [_]
          refine wa_take (i := 16) (d := 48) 1 rfl (by kernel_rfl) (by kernel_rfl) (by kernel_rfl) rfl rfl rfl (fun M17 N17 w24 hle19 S24 => .inl (run_indexR (C := cdInt) (i := 0) ((max (ga l k2) (-(ga l k2)) - 1).toNat + 1) rfl rfl rfl sl22 S24.suf rfl (by first | rfl | omega) (by first | omega | (simp only [List.length_set, List.length_append, List.length_replicate, List.length_singleton, List.length_cons, List.length_nil]; omega)))) ?_
          refine wa_only (i := 17) 0 rfl (by kernel_rfl) rfl rfl (fun w26 S26 => ?_)
          refine (wo_storeR (C := cdInt) (i := 0) (e := (max (ga l k2) (-(ga l k2)) - 1).toNat + 1) (j := 0) (us := [_]) (H' := [_]) (ga wh ((max (ga l k2) (-(ga l k2)) - 1).toNat)) rfl rfl S26 rfl (by first | omega | (simp only [List.length_set, List.length_append, List.length_replicate, List.length_singleton, List.length_cons, List.length_nil]; omega)) rfl rfl rfl sz3 rfl rfl rfl rfl ?_)
          intro w27 S27; clear S26
          refine LeftW.turn (by kernel_rfl) S27 ?_; clear S27
          change WA _ _ _ _ _ _ _ _ _ _ _ _ [_]
          refine wa_end (by kernel_rfl) (fun w28 S28 => ?_)
          refine nm_blk ?_
          refine nm_sub [(0, _), (1, _), (5, _), (7, _)] ⟨rfl, rfl, rfl, rfl, trivial⟩ ?_
          refine nm_thn ?_
          refine ws_region rfl ?_
          refine wl_op (k := 0) (k' := 1) rfl rfl rfl (wo_run rfl rfl (run_move rfl rfl) ?_)
          refine wl_op (k := 1) (k' := 2) rfl rfl rfl (wo_run rfl rfl (run_add rfl rfl rfl (by first | omega | (simp only [List.length_set, List.length_append, List.length_replicate, List.length_singleton, List.length_cons, List.length_nil]; omega))) ?_)
          refine wl_op (k := 2) (k' := 3) rfl rfl rfl (wo_run rfl rfl (run_assign rfl rfl) ?_)
          refine wl_end rfl ?_
          refine nm_lp ?_
          intro ax_ hax_
          refine ⟨_, ?hq4m, ⟨k2 + 1, _, _, rfl, hax_.sub ⟨rfl, rfl, rfl, rfl, trivial⟩, S28.pick [0] [_] (by decide) ⟨rfl, trivial⟩, ?hq4f0, ?hq4f1, ?hq4f2⟩⟩
          case hq4f0 => omega
          case hq4f1 => (rw [whoP_take _ _ _ (by omega), ← hwh]; rfl)
          case hq4f2 => exact hok.step (hwb k2 (by omega))
          case hq4m => omega
        · have hb25 := of_decide_eq_false hb25
          refine ws_exit rfl rfl ?_
          refine nm_sub [(0, _), (5, _)] ⟨rfl, rfl, trivial⟩ ?_
          refine nm_thn ?_
          refine ws_seqN EndsOf_n37 EndsOf_n38 rfl rfl rfl ?_
          refine ws_region rfl ?_
          refine wl_op (k := 0) (k' := 1) rfl rfl rfl (wo_run rfl rfl (run_move rfl rfl) ?_)
          refine wl_op (k := 1) (k' := 2) rfl rfl rfl (wo_make (C := cdInt) m rfl rfl rfl rfl rfl sl22 (by first | rfl | omega) (by show _ * 8 ≤ _; first | omega | (simp only [List.length_set, List.length_append, List.length_replicate, List.length_singleton, List.length_cons, List.length_nil]; omega)) S4 ?_)
          intro vr2 w29 S29; clear S4
          refine wl_op (k := 2) (k' := 3) rfl rfl rfl (wo_run rfl rfl (run_assign rfl rfl) ?_)
          refine wl_end rfl ?_
          refine nm_sub [(0, _), (5, _), (9, _)] ⟨rfl, rfl, rfl, trivial⟩ ?_
          refine nm_thn ?_
          refine ws_seqN EndsOf_n39 EndsOf_n40 rfl rfl rfl ?_
          refine ws_seqN EndsOf_n41 EndsOf_n42 rfl rfl rfl ?_
          refine ws_region rfl ?_
          refine wl_op (k := 0) (k' := 1) rfl rfl rfl (wo_run rfl rfl (run_assign rfl rfl) ?_)
          refine wl_end rfl ?_
          refine nm_thn ?_
          refine ws_blockN EndsOf_n43 4 rfl rfl rfl ?_
          refine ws_loopE (fun mx_ ax_ wx_ => ∃ (k3 : Nat) (ot : List Int) (vrq : Value), mx_ = m - k3 ∧ Env 65 [(0, .int .i64 (m : Int)), (5, vrp), (9, vrq), (10, .int .i64 (k3 : Int))] ax_ ∧ SH wx_ M X [Rs.row cdInt vrq ot, Rs.row cdInt vrp wh] ∧ k3 ≤ m ∧ ot = outP m wh k3 ∧ ot.length = m) rfl ?_ ?_
          · intro ax_ hax_
            refine ⟨_, ⟨0, _, _, rfl, hax_.sub ⟨rfl, rfl, rfl, rfl, trivial⟩, S29.pick [0, 1] [_, _] (by decide) ⟨rfl, rfl, trivial⟩, ?hq5f0, ?hq5f1, ?hq5f2⟩⟩
            case hq5f0 => omega
            case hq5f1 => rfl
            case hq5f2 => simp
          · rintro m3 a3 w30 ⟨k3, ot, vrq, rfl, he3, S30, hk3, hot, hol⟩
            clear S29
            refine ws_in he3 (c := EndsOf_n44) rfl ?_
            clear he3 a3
            have how := fun h => hok.2 k3 h
            refine ws_seqN EndsOf_n45 EndsOf_n46 rfl rfl rfl ?_
            refine ws_seqN EndsOf_n47 EndsOf_n48 rfl rfl rfl ?_
            refine ws_region rfl ?_
            refine wl_op (k := 0) (k' := 1) rfl rfl rfl (wo_run rfl rfl (run_move rfl rfl) ?_)
            refine wl_op (k := 1) (k' := 2) rfl rfl rfl (wo_run rfl rfl (run_move rfl rfl) ?_)
            refine wl_op (k := 2) (k' := 3) rfl rfl rfl (wo_run rfl rfl (run_lss rfl rfl rfl) ?_)
            refine wl_end rfl ?_
            refine nm_sub [(0, _), (5, _), (9, _), (10, _), (53, _)] ⟨rfl, rfl, rfl, rfl, rfl, trivial⟩ ?_
            refine nm_thn ?_
            refine ws_condN EndsOf_n49 EndsOf_n50 rfl rfl rfl rfl (fun hb53 => ?_) (fun hb53 => ?_)
            · have hb53 := of_decide_eq_true hb53
              refine ws_skip rfl ?_
              refine nm_sub [(0, _), (5, _), (9, _), (10, _)] ⟨rfl, rfl, rfl, rfl, trivial⟩ ?_
              refine nm_thn ?_
              refine ws_seqN EndsOf_n51 EndsOf_n52 rfl rfl rfl ?_
              refine ws_blockN EndsOf_n53 5 rfl rfl rfl ?_
              refine ws_region rfl ?_
              refine wl_op (k := 0) (k' := 1) rfl rfl rfl (wo_run rfl rfl (run_move rfl rfl) ?_)
              refine wl_op (k := 1) (k' := 2) rfl rfl rfl (wo_run rfl rfl (run_move rfl rfl) ?_)
              refine wl_op (k := 2) (k' := 3) rfl rfl rfl (wo_run rfl rfl (run_move rfl rfl) ?_)
              refine wl_op (k := 3) (k' := 4) rfl rfl rfl (wo_run rfl rfl (run_indexR (C := cdInt) (i := 1) k3 rfl rfl rfl sl22 S30 rfl (by first | rfl | omega) (by first | omega | (simp only [List.length_set, List.length_append, List.length_replicate, List.length_singleton, List.length_cons, List.length_nil]; omega))) ?_)
              refine wl_op (k := 4) (k' := 5) rfl rfl rfl (wo_run rfl rfl (run_load1 rfl rfl Try.underlying3 rfl (S30.rowc (i := 1) (e := k3) (j := 0) rfl (by first | omega | (simp only [List.length_set, List.length_append, List.length_replicate, List.length_singleton, List.length_cons, List.length_nil]; omega)) rfl rfl)) ?_)
              refine wl_op (k := 5) (k' := 6) rfl rfl rfl (wo_run rfl rfl (run_move rfl rfl) ?_)
              refine wl_op (k := 6) (k' := 7) rfl rfl rfl (wo_run rfl rfl (run_add rfl rfl rfl (by first | omega | (simp only [List.length_set, List.length_append, List.length_replicate, List.length_singleton, List.length_cons, List.length_nil]; omega))) ?_)
              refine wl_op (k := 7) (k' := 8) rfl rfl rfl (wo_run rfl rfl (run_indexR (C := cdInt) (i := 0) ((ga wh k3).toNat) rfl rfl rfl sl22 S30 rfl (by first | rfl | omega) (by first | omega | (simp only [List.length_set, List.length_append, List.length_replicate, List.length_singleton, List.length_cons, List.length_nil]; omega))) ?_)
              refine wl_op (k := 8) (k' := 9) rfl rfl rfl (wo_storeR (C := cdInt) (i := 0) (e := (ga wh k3).toNat) (j := 0) (us := [_]) (H' := [_, _]) ((k3 : Int) + 1) rfl rfl S30 rfl (by first | omega | (simp only [List.length_set, List.length_append, List.length_replicate, List.length_singleton, List.length_cons, List.length_nil]; omega)) rfl rfl rfl sz3 rfl rfl rfl rfl ?_)
              intro w31 S31; clear S30
              refine wl_end rfl ?_
              refine nm_blk ?_
              refine nm_sub [(0, _), (5, _), (9, _), (10, _)] ⟨rfl, rfl, rfl, rfl, trivial⟩ ?_
              refine nm_thn ?_
              refine ws_region rfl ?_
              refine wl_op (k := 0) (k' := 1) rfl rfl rfl (wo_run rfl rfl (run_move rfl rfl) ?_)
              refine wl_op (k := 1) (k' := 2) rfl rfl rfl (wo_run rfl rfl (run_add rfl rfl rfl (by first | omega | (simp only [List.length_set, List.length_append, List.length_replicate, List.length_singleton, List.length_cons, List.length_nil]; omega))) ?_)
              refine wl_op (k := 2) (k' := 3) rfl rfl rfl (wo_run rfl rfl (run_assign rfl rfl) ?_)
              refine wl_end rfl ?_
              refine nm_lp ?_
              intro ax_ hax_
              refine ⟨_, ?hq6m, ⟨k3 + 1, _, _, rfl, hax_.sub ⟨rfl, rfl, rfl, rfl, trivial⟩, S31.pick [0, 1] [_, _] (by decide) ⟨rfl, rfl, trivial⟩, ?hq6f0, ?hq6f1, ?hq6f2⟩⟩
              case hq6f0 => omega
              case hq6f1 => (rw [outP_succ, ← hot])
              case hq6f2 => simpa using hol
              case hq6m => omega
            · have hb53 := of_decide_eq_false hb53
              refine ws_exit rfl rfl ?_
              refine nm_sub [(9, _)] ⟨rfl, trivial⟩ ?_
              refine nm_thn ?_
              refine ws_seqN EndsOf_n54 EndsOf_n55 rfl rfl rfl ?_
              refine ws_region rfl ?_
              refine wl_op (k := 0) (k' := 1) rfl rfl rfl (wo_run rfl rfl (run_move rfl rfl) ?_)
              refine wl_op (k := 1) (k' := 2) rfl rfl rfl (wo_run rfl rfl (run_assign rfl rfl) ?_)
              refine wl_end rfl ?_
              refine nm_sub [(4, _)] ⟨rfl, trivial⟩ ?_
              refine nm_thn ?_
              obtain ⟨M19, hle22, S32, ⟨A1, c1, e1, hr1⟩⟩ := S30.pubrow (i := 0) (H' := [_, _]) rfl rfl (by show _ * 8 ≤ _; first | omega | (simp only [List.length_set, List.length_append, List.length_replicate, List.length_singleton, List.length_cons, List.length_nil]; omega))
              clear S30; subst e1
              replace hl := hl.mono (Hp.un_mono hle22 S32.mx)
              refine ws_ret hC [_] rfl rfl ⟨rfl, trivial⟩ ?_
              refine ⟨_, rfl, _, hle22, (S32.pick [] [] (by decide) trivial), ?_⟩
              obtain rfl : k3 = m := by omega
              have e : ot = outP k3 (whoP k3 l) k3 := by rw [hot, hwh, show k2 = l.length by omega, List.take_length]
              subst e
              exact ⟨_, _, rfl, hr1⟩

end Go.Proofs.Ythfiblbkkjcliaa
