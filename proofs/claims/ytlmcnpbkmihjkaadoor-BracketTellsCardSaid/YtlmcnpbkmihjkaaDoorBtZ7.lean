/- Part 7 of the proof of the law BracketTells: the walks through its functions and the plain laws that they need. -/
import Derived.Test.YtlmcnpbkmihjkaaDoorBtZ6
import Derived.Lib.AppendZeros
set_option linter.unusedSimpArgs false
set_option linter.unusedVariables false
namespace Go.Proofs.YtlmcnpbkmihjkaaDoor
open Go.ChangeShapes Go.WideShapes Go.ChangeAt Go.RowKit
theorem rnC_le (ps : List (Nat × Nat)) (ws : List Int) : rnC ps ws ≤ ps.length := by
 induction ps generalizing ws with
 | nil => exact Nat.le_refl _
 | cons p ps ih =>
  have h1 := ih (mgW ws p.1 p.2)
  have h2 : mgC ws p.1 p.2 ≤ 1 := by unfold mgC; split <;> omega
  show mgC ws p.1 p.2 + rnC ps _ ≤ ps.length + 1
  omega
theorem rnW_app (ps : List (Nat × Nat)) (p q : Nat × Nat) (ws : List Int) : rnW (ps ++ [p, q]) ws = mgW (mgW (rnW ps ws) p.1 p.2) q.1 q.2 := by
 rw [show ps ++ [p, q] = (ps ++ [p]) ++ [q] by simp, rnW_snoc, rnW_snoc]
theorem rnC_app (ps : List (Nat × Nat)) (p q : Nat × Nat) (ws : List Int) : rnC (ps ++ [p, q]) ws = rnC ps ws + mgC (rnW ps ws) p.1 p.2 + mgC (mgW (rnW ps ws) p.1 p.2) q.1 q.2 := by
 rw [show ps ++ [p, q] = (ps ++ [p]) ++ [q] by simp, rnC_snoc, rnC_snoc, rnW_snoc]
/-- Which arcs a crossing ties: undone by A (1) or by B (0). -/
def prB (x : Cr) (bit : Nat) : List (Nat × Nat) := if bit = 0 then [(x.b.toNat, x.c.toNat), (x.d.toNat, x.a.toNat)] else [(x.a.toNat, x.b.toNat), (x.c.toNat, x.d.toNat)]
theorem prB_len (x : Cr) (bit : Nat) : (prB x bit).length = 2 := by unfold prB; split <;> rfl
def prsF (d : Dg) (f : Nat → Nat) : Nat → List (Nat × Nat)
 | 0 => []
 | k + 1 => prsF d f k ++ prB (ga d.crs k) (f k)
theorem prsF_len (d : Dg) (f : Nat → Nat) (k : Nat) : (prsF d f k).length = 2 * k := by
 induction k with
 | zero => rfl
 | succ k ih => rw [prsF, List.length_append, prB_len, ih]; omega
def bitN (s k : Nat) : Nat := s / 2 ^ k % 2
def idW (d : Dg) : List Int := iniW (2 * d.crs.length + 1) (2 * d.crs.length + 1)
/-- How many merges come off. -/
def cmF (d : Dg) (f : Nat → Nat) (k : Nat) : Nat := rnC (prsF d f k) (idW d)
theorem cmF_le (d : Dg) (f : Nat → Nat) (k : Nat) : cmF d f k ≤ 2 * k := by
 unfold cmF; rw [← prsF_len d f k]; exact rnC_le _ _
def rngF (d : Dg) (f : Nat → Nat) : Int := 2 * (d.crs.length : Int) + d.loops - ((cmF d f d.crs.length : Nat) : Int)
theorem mgW_ne {ws wz : List Int} {a b : Nat} (h : ¬ ga ws a = ga ws b) (hl : wz.length = ws.length) (hg : ∀ j, j < ws.length → ga wz j = if ga ws j = ga ws b then ga ws a else ga ws j) : wz = mgW ws a b :=
 ga_ext (by rw [hl, mgW_len]) fun x hx => by rw [hg x (by omega), mgW_ga h (by omega)]
noncomputable def merge_n0 : Code := Tryd.f31.body.getD .skip
noncomputable def merge_n1 : Code := cL merge_n0
noncomputable def merge_n2 : Code := cR merge_n0
noncomputable def merge_n3 : Code := cL merge_n2
noncomputable def merge_n4 : Code := cR merge_n2
noncomputable def merge_n5 : Code := cL merge_n4
noncomputable def merge_n6 : Code := cR merge_n4
noncomputable def merge_n7 : Code := cL merge_n5
noncomputable def merge_n8 : Code := cR merge_n5
noncomputable def merge_n9 : Code := cL merge_n8
noncomputable def merge_n10 : Code := cR merge_n8
noncomputable def merge_n11 : Code := cL merge_n9
noncomputable def merge_n12 : Code := cR merge_n9
noncomputable def merge_n13 : Code := cL merge_n6
noncomputable def merge_n14 : Code := cR merge_n6
noncomputable def merge_n15 : Code := cL merge_n13
noncomputable def merge_n16 : Code := cR merge_n13
noncomputable def merge_n17 : Code := cL merge_n16
noncomputable def merge_n18 : Code := cL merge_n17
noncomputable def merge_n19 : Code := cL merge_n18
noncomputable def merge_n20 : Code := cR merge_n18
noncomputable def merge_n21 : Code := cL merge_n19
noncomputable def merge_n22 : Code := cR merge_n19
noncomputable def merge_n23 : Code := cL merge_n22
noncomputable def merge_n24 : Code := cR merge_n22
noncomputable def merge_n25 : Code := cL merge_n20
noncomputable def merge_n26 : Code := cR merge_n20
noncomputable def merge_n27 : Code := cL merge_n25
noncomputable def merge_n28 : Code := cL merge_n27
noncomputable def merge_n29 : Code := cR merge_n27
noncomputable def merge_n30 : Code := cL merge_n29
noncomputable def merge_n31 : Code := cR merge_n29
noncomputable def merge_n32 : Code := cL merge_n14
noncomputable def merge_n33 : Code := cR merge_n14
set_option maxHeartbeats 1000000 in
set_option maxRecDepth 10000 in
theorem merge_w {w : World} {M : Hp} {X : Fr} (vws : Value) (ws : List Int) (a : Nat) (b : Nat) (hsz : ws.length ≤ 1000) (ha : a < ws.length) (hb : b < ws.length) (S : SH w M X [Rs.row cdInt vws ws]) : C1 Tryd.prog 31 [vws, .int .i64 (a : Int), .int .i64 (b : Int)] w M X (fun u M' r' => u = .bool (decide (¬ ga ws a = ga ws b)) ∧ M' = M ∧ r' = Rs.row cdInt vws (mgW ws a b)) := by
 unfold C1
 refine calls_in (b := merge_n0) Tryd.func31 rfl Tryd.ntmps31 rfl (fun C hC => ?_)
 refine ws_sub [(0, _), (1, _), (2, _)] ⟨rfl, rfl, rfl, trivial⟩ ?_
 refine ws_seqN merge_n1 merge_n2 rfl rfl rfl ?_
 refine ws_region rfl ?_
 refine wla 0 1 rfl rfl rfl rfl rfl rfl rfl ?_
 refine wl_end rfl ?_
 refine nm_sub [(0, _), (1, _), (2, _)] ⟨rfl, rfl, rfl, trivial⟩ ?_
 refine nm_thn ?_
 refine ws_seqN merge_n3 merge_n4 rfl rfl rfl ?_
 refine ws_draw rfl (by kernel_rfl) S 10 rfl ?_
 clear S
 refine wa_takeP (i := 0) (d := 10) 9 rfl (by kernel_rfl) (by kernel_rfl) (by kernel_rfl) rfl rfl rfl (fun w1 => run_move rfl rfl) ?_
 refine wa_takeP (i := 1) (d := 11) 8 rfl (by kernel_rfl) (by kernel_rfl) (by kernel_rfl) rfl rfl rfl (fun w2 => run_move rfl rfl) ?_
 refine wa_take (i := 2) (d := 12) 7 rfl (by kernel_rfl) (by kernel_rfl) (by kernel_rfl) rfl rfl rfl (fun M3 N3 w3 hle3 S3 => .inl (run_indexR (C := cdInt) (i := 0) a rfl rfl rfl sl46 S3.suf rfl (by first | rfl | omega) (by first | omega | (simp only [lens]; omega)))) ?_
 refine wa_take (i := 3) (d := 13) 6 rfl (by kernel_rfl) (by kernel_rfl) (by kernel_rfl) rfl rfl rfl (fun M4 N4 w4 hle4 S4 => .inl (run_load1 rfl rfl Tryd.underlying3 rfl (S4.suf.rowc (i := 0) (e := a) (j := 0) rfl (by first | omega | (simp only [lens]; omega)) rfl rfl))) ?_
 refine wa_takeP (i := 4) (d := 14) 5 rfl (by kernel_rfl) (by kernel_rfl) (by kernel_rfl) rfl rfl rfl (fun w5 => run_move rfl rfl) ?_
 refine wa_takeP (i := 5) (d := 15) 4 rfl (by kernel_rfl) (by kernel_rfl) (by kernel_rfl) rfl rfl rfl (fun w6 => run_move rfl rfl) ?_
 refine wa_take (i := 6) (d := 16) 3 rfl (by kernel_rfl) (by kernel_rfl) (by kernel_rfl) rfl rfl rfl (fun M7 N7 w7 hle7 S7 => .inl (run_indexR (C := cdInt) (i := 0) b rfl rfl rfl sl46 S7.suf rfl (by first | rfl | omega) (by first | omega | (simp only [lens]; omega)))) ?_
 refine wa_take (i := 7) (d := 17) 2 rfl (by kernel_rfl) (by kernel_rfl) (by kernel_rfl) rfl rfl rfl (fun M8 N8 w8 hle8 S8 => .inl (run_load1 rfl rfl Tryd.underlying3 rfl (S8.suf.rowc (i := 0) (e := b) (j := 0) rfl (by first | omega | (simp only [lens]; omega)) rfl rfl))) ?_
 refine wa_takeP (i := 8) (d := 7) 1 rfl (by kernel_rfl) (by kernel_rfl) (by kernel_rfl) rfl rfl rfl (fun w9 => run_assign rfl rfl) ?_
 refine wa_takeP (i := 9) (d := 8) 0 rfl (by kernel_rfl) (by kernel_rfl) (by kernel_rfl) rfl rfl rfl (fun w10 => run_assign rfl rfl) ?_
 refine wa_end (by kernel_rfl) (fun w11 S11 => ?_)
 refine nm_sub [(0, _), (7, _), (8, _)] ⟨rfl, rfl, rfl, trivial⟩ ?_
 refine nm_thn ?_
 refine ws_seqN merge_n5 merge_n6 rfl rfl rfl ?_
 refine ws_seqN merge_n7 merge_n8 rfl rfl rfl ?_
 refine ws_region rfl ?_
 refine wlm 0 1 rfl rfl rfl rfl rfl rfl rfl ?_
 refine wlm 1 2 rfl rfl rfl rfl rfl rfl rfl ?_
 refine wlo 2 3 rfl rfl rfl (wo_run rfl rfl (run_eql rfl rfl rfl) ?_)
 refine wl_end rfl ?_
 refine nm_sub [(0, _), (7, _), (8, _), (20, _)] ⟨rfl, rfl, rfl, rfl, trivial⟩ ?_
 refine nm_thn ?_
 refine ws_condN merge_n9 merge_n10 rfl rfl rfl rfl (fun hb20 => ?_) (fun hb20 => ?_)
 ·replace hb20 := of_decide_eq_true hb20
  refine ws_seqN merge_n11 merge_n12 rfl rfl rfl ?_
  refine ws_region rfl ?_
  refine wla 0 1 rfl rfl rfl rfl rfl rfl rfl ?_
  refine wl_end rfl ?_
  refine nm_sub [(6, _)] ⟨rfl, trivial⟩ ?_
  refine nm_thn ?_
  refine ws_ret hC [_] rfl rfl ⟨rfl, trivial⟩ ?_
  exact ⟨_, rfl, _, _, Hp.le_refl _, S11.pick [0] [_] (by decide) ⟨rfl, trivial⟩, ⟨by show Value.bool _ = _; rw [decide_eq_false (by omega)], rfl, by rw [show mgW ws a b = ws by unfold mgW; rw [if_pos (by omega)]]⟩⟩
 ·replace hb20 := of_decide_eq_false hb20
  refine ws_skip rfl ?_
  refine nm_sub [(0, _), (7, _), (8, _)] ⟨rfl, rfl, rfl, trivial⟩ ?_
  refine nm_thn ?_
  refine ws_seqN merge_n13 merge_n14 rfl rfl rfl ?_
  refine ws_seqN merge_n15 merge_n16 rfl rfl rfl ?_
  refine ws_region rfl ?_
  refine wla 0 1 rfl rfl rfl rfl rfl rfl rfl ?_
  refine wl_end rfl ?_
  refine nm_thn ?_
  refine ws_blockN merge_n17 0 rfl rfl rfl ?_
  refine ws_loopE (fun mx_ ax_ wx_ => ∃ (i : Nat) (wz : List Int) (vrz : Value), mx_ = ws.length - i ∧ Env 37 [(0, vrz), (7, .int .i64 (ga ws a)), (8, .int .i64 (ga ws b)), (9, .int .i64 (i : Int))] ax_ ∧ SH wx_ M X [Rs.row cdInt vrz wz] ∧ vrz = vws ∧ i ≤ ws.length ∧ wz.length = ws.length ∧ (∀ j, j < i → ga wz j = if ga ws j = ga ws b then ga ws a else ga ws j) ∧ (∀ j, i ≤ j → ga wz j = ga ws j)) rfl ?_ ?_
  ·intro ax_ hax_
   refine ⟨_, ⟨0, _, _, rfl, hax_.sub ⟨rfl, rfl, rfl, rfl, trivial⟩, S11.pick [0] [_] (by decide) ⟨rfl, trivial⟩, ?hq1f0, ?hq1f1, ?hq1f2, ?hq1f3, ?hq1f4⟩⟩
   case hq1f0 => rfl
   case hq1f1 => omega
   case hq1f2 => rfl
   case hq1f3 => (intro j hj; omega)
   case hq1f4 => (intro j hj; rfl)
  ·rintro m1 a1 w12 ⟨i, wz, vrz, rfl, he1, S12, hvz, hi, hzl, hz1, hz2⟩
   clear S11
   refine ws_in he1 (c := merge_n18) rfl ?_
   clear he1 a1
   refine ws_seqN merge_n19 merge_n20 rfl rfl rfl ?_
   refine ws_seqN merge_n21 merge_n22 rfl rfl rfl ?_
   refine ws_region rfl ?_
   refine wlm 0 1 rfl rfl rfl rfl rfl rfl rfl ?_
   refine wlm 1 2 rfl rfl rfl rfl rfl rfl rfl ?_
   refine wlo 2 3 rfl rfl rfl (wo_run rfl rfl (run_lenR (C := cdInt) (i := 0) rfl rfl rfl rfl rfl rfl sl46 S12 rfl) ?_)
   refine wlo 3 4 rfl rfl rfl (wo_run rfl rfl (run_lss rfl rfl rfl) ?_)
   refine wl_end rfl ?_
   refine nm_sub [(0, _), (7, _), (8, _), (9, _), (24, _)] ⟨rfl, rfl, rfl, rfl, rfl, trivial⟩ ?_
   refine nm_thn ?_
   refine ws_condN merge_n23 merge_n24 rfl rfl rfl rfl (fun hb24 => ?_) (fun hb24 => ?_)
   ·replace hb24 := of_decide_eq_true hb24
    refine ws_skip rfl ?_
    refine nm_sub [(0, _), (7, _), (8, _), (9, _)] ⟨rfl, rfl, rfl, rfl, trivial⟩ ?_
    refine nm_thn ?_
    refine ws_seqN merge_n25 merge_n26 rfl rfl rfl ?_
    refine ws_blockN merge_n27 1 rfl rfl rfl ?_
    refine ws_seqN merge_n28 merge_n29 rfl rfl rfl ?_
    refine ws_region rfl ?_
    refine wlm 0 1 rfl rfl rfl rfl rfl rfl rfl ?_
    refine wlm 1 2 rfl rfl rfl rfl rfl rfl rfl ?_
    refine wlo 2 3 rfl rfl rfl (wo_run rfl rfl (run_indexR (C := cdInt) (i := 0) i rfl rfl rfl sl46 S12 rfl (by first | rfl | omega) (by first | omega | (simp only [lens]; omega))) ?_)
    refine wlo 3 4 rfl rfl rfl (wo_run rfl rfl (run_load1 rfl rfl Tryd.underlying3 rfl (S12.rowc (i := 0) (e := i) (j := 0) rfl (by first | omega | (simp only [lens]; omega)) rfl rfl)) ?_)
    refine wlm 4 5 rfl rfl rfl rfl rfl rfl rfl ?_
    refine wlo 5 6 rfl rfl rfl (wo_run rfl rfl (run_eql rfl rfl rfl) ?_)
    refine wl_end rfl ?_
    refine nm_sub [(0, _), (7, _), (8, _), (9, _), (32, _)] ⟨rfl, rfl, rfl, rfl, rfl, trivial⟩ ?_
    refine nm_thn ?_
    refine ws_condN merge_n30 merge_n31 rfl rfl rfl rfl (fun hb32 => ?_) (fun hb32 => ?_)
    ·replace hb32 := of_decide_eq_true hb32
     refine ws_region rfl ?_
     refine wlm 0 1 rfl rfl rfl rfl rfl rfl rfl ?_
     refine wlm 1 2 rfl rfl rfl rfl rfl rfl rfl ?_
     refine wlm 2 3 rfl rfl rfl rfl rfl rfl rfl ?_
     refine wlo 3 4 rfl rfl rfl (wo_run rfl rfl (run_indexR (C := cdInt) (i := 0) i rfl rfl rfl sl46 S12 rfl (by first | rfl | omega) (by first | omega | (simp only [lens]; omega))) ?_)
     refine wlo 4 5 rfl rfl rfl (wo_storeR (C := cdInt) (i := 0) (e := i) (j := 0) (us := [_]) (H' := [_]) (ga ws a) rfl rfl S12 rfl (by first | omega | (simp only [lens]; omega)) rfl rfl rfl sz3 rfl rfl rfl rfl ?_)
     intro w13 S13; clear S12
     refine wl_end rfl ?_
     refine nm_blk ?_
     refine nm_sub [(0, _), (7, _), (8, _), (9, _)] ⟨rfl, rfl, rfl, rfl, trivial⟩ ?_
     refine nm_thn ?_
     refine ws_region rfl ?_
     refine wlm 0 1 rfl rfl rfl rfl rfl rfl rfl ?_
     refine wlo 1 2 rfl rfl rfl (wo_run rfl rfl (run_add rfl rfl rfl (by first | omega | (simp only [lens]; omega))) ?_)
     refine wla 2 3 rfl rfl rfl rfl rfl rfl rfl ?_
     refine wl_end rfl ?_
     refine nm_lp ?_
     intro ax_ hax_
     refine ⟨_, ?hq2m, ⟨i + 1, wz.set i (ga ws a), _, rfl, hax_.sub ⟨rfl, rfl, rfl, rfl, trivial⟩, S13.pick [0] [_] (by decide) ⟨rfl, trivial⟩, ?hq2f0, ?hq2f1, ?hq2f2, ?hq2f3, ?hq2f4⟩⟩
     case hq2f0 => exact hvz
     case hq2f1 => omega
     case hq2f2 => (first | (rw [List.length_set]; exact hzl) | exact hzl)
     case hq2f3 => (intro j hj; by_cases e : j = i; (subst e; first | (rw [ga_set _ _ _ _ (by omega), if_pos rfl, ← hz2 j (Nat.le_refl _), if_pos (by omega)]) | (rw [hz2 j (Nat.le_refl _), if_neg (by rw [← hz2 j (Nat.le_refl _)]; omega)])); first | (rw [ga_set _ _ _ _ (by omega), if_neg (by omega)]; exact hz1 j (by omega)) | exact hz1 j (by omega))
     case hq2f4 => (intro j hj; first | (rw [ga_set _ _ _ _ (by omega), if_neg (by omega)]; exact hz2 j (by omega)) | exact hz2 j (by omega))
     case hq2m => omega
    ·replace hb32 := of_decide_eq_false hb32
     refine ws_skip rfl ?_
     refine nm_blk ?_
     refine nm_sub [(0, _), (7, _), (8, _), (9, _)] ⟨rfl, rfl, rfl, rfl, trivial⟩ ?_
     refine nm_thn ?_
     refine ws_region rfl ?_
     refine wlm 0 1 rfl rfl rfl rfl rfl rfl rfl ?_
     refine wlo 1 2 rfl rfl rfl (wo_run rfl rfl (run_add rfl rfl rfl (by first | omega | (simp only [lens]; omega))) ?_)
     refine wla 2 3 rfl rfl rfl rfl rfl rfl rfl ?_
     refine wl_end rfl ?_
     refine nm_lp ?_
     intro ax_ hax_
     refine ⟨_, ?hq3m, ⟨i + 1, wz, _, rfl, hax_.sub ⟨rfl, rfl, rfl, rfl, trivial⟩, S12.pick [0] [_] (by decide) ⟨rfl, trivial⟩, ?hq3f0, ?hq3f1, ?hq3f2, ?hq3f3, ?hq3f4⟩⟩
     case hq3f0 => exact hvz
     case hq3f1 => omega
     case hq3f2 => (first | (rw [List.length_set]; exact hzl) | exact hzl)
     case hq3f3 => (intro j hj; by_cases e : j = i; (subst e; first | (rw [ga_set _ _ _ _ (by omega), if_pos rfl, ← hz2 j (Nat.le_refl _), if_pos (by omega)]) | (rw [hz2 j (Nat.le_refl _), if_neg (by rw [← hz2 j (Nat.le_refl _)]; omega)])); first | (rw [ga_set _ _ _ _ (by omega), if_neg (by omega)]; exact hz1 j (by omega)) | exact hz1 j (by omega))
     case hq3f4 => (intro j hj; first | (rw [ga_set _ _ _ _ (by omega), if_neg (by omega)]; exact hz2 j (by omega)) | exact hz2 j (by omega))
     case hq3m => omega
   ·replace hb24 := of_decide_eq_false hb24
    refine ws_exit rfl rfl ?_
    refine nm_sub [] trivial ?_
    refine nm_thn ?_
    refine ws_seqN merge_n32 merge_n33 rfl rfl rfl ?_
    refine ws_region rfl ?_
    refine wla 0 1 rfl rfl rfl rfl rfl rfl rfl ?_
    refine wl_end rfl ?_
    refine nm_thn ?_
    refine ws_ret hC [_] rfl rfl ⟨rfl, trivial⟩ ?_
    exact ⟨_, rfl, _, _, Hp.le_refl _, S12.pick [0] [_] (by decide) ⟨rfl, trivial⟩, ⟨by show Value.bool _ = _; rw [decide_eq_true (by omega)], rfl, by rw [hvz, mgW_ne (by omega) hzl (fun j hj => hz1 j (by omega))]⟩⟩
theorem merge_wi {w : World} {M : Hp} {X : Fr} (vws : Value) (ws : List Int) (a b : Int) (hsz : ws.length ≤ 1000) (ha : 0 ≤ a ∧ a.toNat < ws.length) (hb : 0 ≤ b ∧ b.toNat < ws.length) (S : SH w M X [Rs.row cdInt vws ws]) : C1 Tryd.prog 31 [vws, .int .i64 a, .int .i64 b] w M X (fun u M' r' => u = .bool (decide (¬ ga ws a.toNat = ga ws b.toNat)) ∧ M' = M ∧ r' = Rs.row cdInt vws (mgW ws a.toNat b.toNat)) := by
 obtain ⟨m, rfl⟩ : ∃ m : Nat, a = (m : Int) := ⟨a.toNat, by omega⟩
 obtain ⟨k, rfl⟩ : ∃ k : Nat, b = (k : Int) := ⟨b.toNat, by omega⟩
 exact merge_w vws ws m k hsz ha.2 hb.2 S
noncomputable def ringsOf_n0 : Code := Tryd.f17.body.getD .skip
noncomputable def ringsOf_n1 : Code := cL ringsOf_n0
noncomputable def ringsOf_n2 : Code := cR ringsOf_n0
noncomputable def ringsOf_n3 : Code := cL ringsOf_n2
noncomputable def ringsOf_n4 : Code := cR ringsOf_n2
noncomputable def ringsOf_n5 : Code := cL ringsOf_n4
noncomputable def ringsOf_n6 : Code := cR ringsOf_n4
noncomputable def ringsOf_n7 : Code := cL ringsOf_n6
noncomputable def ringsOf_n8 : Code := cR ringsOf_n6
noncomputable def ringsOf_n9 : Code := cL ringsOf_n7
noncomputable def ringsOf_n10 : Code := cR ringsOf_n7
noncomputable def ringsOf_n11 : Code := cL ringsOf_n10
noncomputable def ringsOf_n12 : Code := cL ringsOf_n11
noncomputable def ringsOf_n13 : Code := cL ringsOf_n12
noncomputable def ringsOf_n14 : Code := cR ringsOf_n12
noncomputable def ringsOf_n15 : Code := cL ringsOf_n13
noncomputable def ringsOf_n16 : Code := cR ringsOf_n13
noncomputable def ringsOf_n17 : Code := cL ringsOf_n16
noncomputable def ringsOf_n18 : Code := cR ringsOf_n16
noncomputable def ringsOf_n19 : Code := cL ringsOf_n14
noncomputable def ringsOf_n20 : Code := cR ringsOf_n14
noncomputable def ringsOf_n21 : Code := cL ringsOf_n19
noncomputable def ringsOf_n22 : Code := cL ringsOf_n8
noncomputable def ringsOf_n23 : Code := cR ringsOf_n8
noncomputable def ringsOf_n24 : Code := cL ringsOf_n23
noncomputable def ringsOf_n25 : Code := cR ringsOf_n23
noncomputable def ringsOf_n26 : Code := cL ringsOf_n24
noncomputable def ringsOf_n27 : Code := cR ringsOf_n24
noncomputable def ringsOf_n28 : Code := cL ringsOf_n27
noncomputable def ringsOf_n29 : Code := cL ringsOf_n28
noncomputable def ringsOf_n30 : Code := cL ringsOf_n29
noncomputable def ringsOf_n31 : Code := cR ringsOf_n29
noncomputable def ringsOf_n32 : Code := cL ringsOf_n30
noncomputable def ringsOf_n33 : Code := cR ringsOf_n30
noncomputable def ringsOf_n34 : Code := cL ringsOf_n33
noncomputable def ringsOf_n35 : Code := cR ringsOf_n33
noncomputable def ringsOf_n36 : Code := cL ringsOf_n31
noncomputable def ringsOf_n37 : Code := cR ringsOf_n31
noncomputable def ringsOf_n38 : Code := cL ringsOf_n36
noncomputable def ringsOf_n39 : Code := cL ringsOf_n38
noncomputable def ringsOf_n40 : Code := cR ringsOf_n38
noncomputable def ringsOf_n41 : Code := cL ringsOf_n40
noncomputable def ringsOf_n42 : Code := cR ringsOf_n40
noncomputable def ringsOf_n43 : Code := cL ringsOf_n42
noncomputable def ringsOf_n44 : Code := cR ringsOf_n42
noncomputable def ringsOf_n45 : Code := cL ringsOf_n43
noncomputable def ringsOf_n46 : Code := cR ringsOf_n43
noncomputable def ringsOf_n47 : Code := cL ringsOf_n46
noncomputable def ringsOf_n48 : Code := cR ringsOf_n46
noncomputable def ringsOf_n49 : Code := cL ringsOf_n44
noncomputable def ringsOf_n50 : Code := cR ringsOf_n44
noncomputable def ringsOf_n51 : Code := cL ringsOf_n49
noncomputable def ringsOf_n52 : Code := cR ringsOf_n49
noncomputable def ringsOf_n53 : Code := cL ringsOf_n52
noncomputable def ringsOf_n54 : Code := cR ringsOf_n52
noncomputable def ringsOf_n55 : Code := cL ringsOf_n50
noncomputable def ringsOf_n56 : Code := cR ringsOf_n50
noncomputable def ringsOf_n57 : Code := cL ringsOf_n56
noncomputable def ringsOf_n58 : Code := cR ringsOf_n56
noncomputable def ringsOf_n59 : Code := cL ringsOf_n25
noncomputable def ringsOf_n60 : Code := cR ringsOf_n25
set_option maxHeartbeats 2000000 in
set_option maxRecDepth 10000 in
theorem ringsOf_q {w : World} {M : Hp} {X : Fr} (d : Dg) {dcrsA : Option Addr} {dcrsc : Nat} (s : Nat) (hdcrs : RdA cdCr (M.un X.h) dcrsA dcrsc d.crs) (hn : d.crs.length ≤ 12) (hab : arcsB d = true) (hlo : 0 ≤ d.loops ∧ d.loops ≤ 16) (S : SH w M X []) : Cq Tryd.prog 17 [.agg [.slice dcrsA d.crs.length dcrsc, .int .i64 d.loops].toArray, .int .i64 (s : Int)] w M X (fun u => u = .int .i64 (rngF d (bitN s))) := by
 unfold Cq
 have rmhdcrs : d.crs.length * 40 ≤ 140737488355328 := hdcrs.room
 refine calls_in (b := ringsOf_n0) Tryd.func17 rfl Tryd.ntmps17 rfl (fun C hC => ?_)
 refine ws_sub [(0, _), (1, _)] ⟨rfl, rfl, trivial⟩ ?_
 refine ws_seqN ringsOf_n1 ringsOf_n2 rfl rfl rfl ?_
 refine ws_region rfl ?_
 refine wlo 0 1 rfl rfl rfl (wo_box (l := [_, _]) rfl rfl rfl rfl rfl S ?_)
 intro gb1 w1 S1; clear S
 refine wla 1 2 rfl rfl rfl rfl rfl rfl rfl ?_
 refine wl_end rfl ?_
 refine nm_sub [(1, _), (2, _)] ⟨rfl, rfl, trivial⟩ ?_
 refine nm_thn ?_
 refine ws_seqN ringsOf_n3 ringsOf_n4 rfl rfl rfl ?_
 refine ws_region rfl ?_
 refine wlo 0 1 rfl rfl rfl (wo_run rfl rfl (run_fieldAddr rfl rfl Tryd.underlying24 rfl (ce22) (nf22)) ?_)
 refine wlo 1 2 rfl rfl rfl (wo_run rfl rfl (run_load1 rfl rfl Tryd.underlying22 rfl (S1.boxc (i := 0) rfl rfl)) ?_)
 refine wlo 2 3 rfl rfl rfl (wo_run rfl rfl (run_len rfl rfl rfl rfl rfl rfl Tryd.underlying22) ?_)
 refine wla 3 4 rfl rfl rfl rfl rfl rfl rfl ?_
 refine wl_end rfl ?_
 refine nm_sub [(1, _), (2, _), (5, _)] ⟨rfl, rfl, rfl, trivial⟩ ?_
 refine nm_thn ?_
 refine ws_seqN ringsOf_n5 ringsOf_n6 rfl rfl rfl ?_
 refine ws_region rfl ?_
 refine wlm 0 1 rfl rfl rfl rfl rfl rfl rfl ?_
 refine wlo 1 2 rfl rfl rfl (wo_run rfl rfl (run_mul rfl rfl rfl (by first | omega | (simp only [lens]; omega))) ?_)
 refine wlo 2 3 rfl rfl rfl (wo_run rfl rfl (run_add rfl rfl rfl (by first | omega | (simp only [lens]; omega))) ?_)
 refine wlo 3 4 rfl rfl rfl (wo_make (C := cdInt) ((2 * (d.crs.length : Int)).toNat + 1) rfl rfl rfl rfl rfl sl46 (by first | rfl | omega) (by show _ * 8 ≤ _; first | omega | (simp only [lens]; omega)) S1 ?_)
 intro vr1 w2 S2; clear S1
 refine wla 4 5 rfl rfl rfl rfl rfl rfl rfl ?_
 refine wl_end rfl ?_
 refine nm_sub [(1, _), (2, _), (5, _), (6, _)] ⟨rfl, rfl, rfl, rfl, trivial⟩ ?_
 refine nm_thn ?_
 refine ws_seqN ringsOf_n7 ringsOf_n8 rfl rfl rfl ?_
 refine ws_seqN ringsOf_n9 ringsOf_n10 rfl rfl rfl ?_
 refine ws_region rfl ?_
 refine wla 0 1 rfl rfl rfl rfl rfl rfl rfl ?_
 refine wl_end rfl ?_
 refine nm_thn ?_
 refine ws_blockN ringsOf_n11 0 rfl rfl rfl ?_
 refine ws_loopE (fun mx_ ax_ wx_ => ∃ (i : Nat) (ws : List Int) (vrw : Value), mx_ = (2 * d.crs.length + 1) - i ∧ Env 81 [(1, .int .i64 (s : Int)), (2, .pointer (some ⟨gb1, 0, none⟩)), (5, .int .i64 (d.crs.length : Int)), (6, vrw), (7, .int .i64 (i : Int))] ax_ ∧ SH wx_ M X [Rs.row cdInt vrw ws, Rs.box gb1 24 [.slice dcrsA d.crs.length dcrsc, .int .i64 d.loops]] ∧ i ≤ (2 * d.crs.length + 1) ∧ ws = iniW (2 * d.crs.length + 1) i) rfl ?_ ?_
 ·intro ax_ hax_
  refine ⟨_, ⟨0, _, _, rfl, hax_.sub ⟨rfl, rfl, rfl, rfl, rfl, trivial⟩, S2.pick [0, 1] [_, _] (by decide) ⟨rfl, rfl, trivial⟩, ?hq1f0, ?hq1f1⟩⟩
  case hq1f0 => omega
  case hq1f1 => rfl
 ·rintro m1 a1 w3 ⟨i, ws, vrw, rfl, he1, S3, hi, hw⟩
  clear S2
  refine ws_in he1 (c := ringsOf_n12) rfl ?_
  clear he1 a1
  have hwl : ws.length = (2 * d.crs.length + 1) := by rw [hw, iniW_len]
  refine ws_seqN ringsOf_n13 ringsOf_n14 rfl rfl rfl ?_
  refine ws_seqN ringsOf_n15 ringsOf_n16 rfl rfl rfl ?_
  refine ws_region rfl ?_
  refine wlm 0 1 rfl rfl rfl rfl rfl rfl rfl ?_
  refine wlm 1 2 rfl rfl rfl rfl rfl rfl rfl ?_
  refine wlo 2 3 rfl rfl rfl (wo_run rfl rfl (run_mul rfl rfl rfl (by first | omega | (simp only [lens]; omega))) ?_)
  refine wlo 3 4 rfl rfl rfl (wo_run rfl rfl (run_leq rfl rfl rfl) ?_)
  refine wl_end rfl ?_
  refine nm_sub [(1, _), (2, _), (5, _), (6, _), (7, _), (25, _)] ⟨rfl, rfl, rfl, rfl, rfl, rfl, trivial⟩ ?_
  refine nm_thn ?_
  refine ws_condN ringsOf_n17 ringsOf_n18 rfl rfl rfl rfl (fun hb25 => ?_) (fun hb25 => ?_)
  ·replace hb25 := of_decide_eq_true hb25
   refine ws_skip rfl ?_
   refine nm_sub [(1, _), (2, _), (5, _), (6, _), (7, _)] ⟨rfl, rfl, rfl, rfl, rfl, trivial⟩ ?_
   refine nm_thn ?_
   refine ws_seqN ringsOf_n19 ringsOf_n20 rfl rfl rfl ?_
   refine ws_blockN ringsOf_n21 1 rfl rfl rfl ?_
   refine ws_region rfl ?_
   refine wlm 0 1 rfl rfl rfl rfl rfl rfl rfl ?_
   refine wlm 1 2 rfl rfl rfl rfl rfl rfl rfl ?_
   refine wlm 2 3 rfl rfl rfl rfl rfl rfl rfl ?_
   refine wlo 3 4 rfl rfl rfl (wo_run rfl rfl (run_indexR (C := cdInt) (i := 0) i rfl rfl rfl sl46 S3 rfl (by first | rfl | omega) (by first | omega | (simp only [lens]; omega))) ?_)
   refine wlo 4 5 rfl rfl rfl (wo_storeR (C := cdInt) (i := 0) (e := i) (j := 0) (us := [_]) (H' := [_, _]) (i : Int) rfl rfl S3 rfl (by first | omega | (simp only [lens]; omega)) rfl rfl rfl sz3 rfl rfl rfl rfl ?_)
   intro w4 S4; clear S3
   refine wl_end rfl ?_
   refine nm_blk ?_
   refine nm_sub [(1, _), (2, _), (5, _), (6, _), (7, _)] ⟨rfl, rfl, rfl, rfl, rfl, trivial⟩ ?_
   refine nm_thn ?_
   refine ws_region rfl ?_
   refine wlm 0 1 rfl rfl rfl rfl rfl rfl rfl ?_
   refine wlo 1 2 rfl rfl rfl (wo_run rfl rfl (run_add rfl rfl rfl (by first | omega | (simp only [lens]; omega))) ?_)
   refine wla 2 3 rfl rfl rfl rfl rfl rfl rfl ?_
   refine wl_end rfl ?_
   refine nm_lp ?_
   intro ax_ hax_
   refine ⟨_, ?hq2m, ⟨i + 1, _, _, rfl, hax_.sub ⟨rfl, rfl, rfl, rfl, rfl, trivial⟩, S4.pick [0, 1] [_, _] (by decide) ⟨rfl, rfl, trivial⟩, ?hq2f0, ?hq2f1⟩⟩
   case hq2f0 => omega
   case hq2f1 => (rw [hw]; rfl)
   case hq2m => omega
  ·replace hb25 := of_decide_eq_false hb25
   refine ws_exit rfl rfl ?_
   refine nm_sub [(1, _), (2, _), (5, _), (6, _)] ⟨rfl, rfl, rfl, rfl, trivial⟩ ?_
   refine nm_thn ?_
   refine ws_seqN ringsOf_n22 ringsOf_n23 rfl rfl rfl ?_
   refine ws_region rfl ?_
   refine wlm 0 1 rfl rfl rfl rfl rfl rfl rfl ?_
   refine wlo 1 2 rfl rfl rfl (wo_run rfl rfl (run_mul rfl rfl rfl (by first | omega | (simp only [lens]; omega))) ?_)
   refine wlo 2 3 rfl rfl rfl (wo_run rfl rfl (run_fieldAddr rfl rfl Tryd.underlying24 rfl (ce3) (nf3)) ?_)
   refine wlo 3 4 rfl rfl rfl (wo_run rfl rfl (run_load1 rfl rfl Tryd.underlying3 rfl (S3.boxc (i := 1) rfl rfl)) ?_)
   refine wlo 4 5 rfl rfl rfl (wo_run rfl rfl (run_add rfl rfl rfl (by first | omega | (simp only [lens]; omega))) ?_)
   refine wla 5 6 rfl rfl rfl rfl rfl rfl rfl ?_
   refine wl_end rfl ?_
   refine nm_sub [(1, _), (2, _), (5, _), (6, _), (8, _)] ⟨rfl, rfl, rfl, rfl, rfl, trivial⟩ ?_
   refine nm_thn ?_
   refine ws_seqN ringsOf_n24 ringsOf_n25 rfl rfl rfl ?_
   refine ws_seqN ringsOf_n26 ringsOf_n27 rfl rfl rfl ?_
   refine ws_region rfl ?_
   refine wla 0 1 rfl rfl rfl rfl rfl rfl rfl ?_
   refine wl_end rfl ?_
   refine nm_thn ?_
   refine ws_blockN ringsOf_n28 2 rfl rfl rfl ?_
   refine ws_loopE (fun mx_ ax_ wx_ => ∃ (k : Nat) (ws : List Int) (rg : Int) (vrx : Value), mx_ = d.crs.length - k ∧ Env 81 [(1, .int .i64 (s : Int)), (2, .pointer (some ⟨gb1, 0, none⟩)), (5, .int .i64 (d.crs.length : Int)), (6, vrx), (8, .int .i64 rg), (9, .int .i64 (k : Int))] ax_ ∧ SH wx_ M X [Rs.row cdInt vrx ws, Rs.box gb1 24 [.slice dcrsA d.crs.length dcrsc, .int .i64 d.loops]] ∧ k ≤ d.crs.length ∧ ws = rnW (prsF d (bitN s) k) (idW d) ∧ rg = 2 * (d.crs.length : Int) + d.loops - ((cmF d (bitN s) k : Nat) : Int)) rfl ?_ ?_
   ·intro ax_ hax_
    refine ⟨_, ⟨0, _, _, _, rfl, hax_.sub ⟨rfl, rfl, rfl, rfl, rfl, rfl, trivial⟩, S3.pick [0, 1] [_, _] (by decide) ⟨rfl, rfl, trivial⟩, ?hq3f0, ?hq3f1, ?hq3f2⟩⟩
    case hq3f0 => omega
    case hq3f1 => (have e9 : i = (2 * d.crs.length + 1) := (by omega); rw [hw, e9]; rfl)
    case hq3f2 => (show _ = _ - (0 : Int); omega)
   ·rintro m2 a2 w5 ⟨k, ws, rg, vrx, rfl, he2, S5, hk, hw, hrg⟩
    clear S3
    refine ws_in he2 (c := ringsOf_n29) rfl ?_
    clear he2 a2
    have hwl : ws.length = (2 * d.crs.length + 1) := by rw [hw, rnW_len]; exact iniW_len _ _
    have hcm := cmF_le d (bitN s) k
    refine ws_seqN ringsOf_n30 ringsOf_n31 rfl rfl rfl ?_
    refine ws_seqN ringsOf_n32 ringsOf_n33 rfl rfl rfl ?_
    refine ws_region rfl ?_
    refine wlm 0 1 rfl rfl rfl rfl rfl rfl rfl ?_
    refine wlm 1 2 rfl rfl rfl rfl rfl rfl rfl ?_
    refine wlo 2 3 rfl rfl rfl (wo_run rfl rfl (run_lss rfl rfl rfl) ?_)
    refine wl_end rfl ?_
    refine nm_sub [(1, _), (2, _), (5, _), (6, _), (8, _), (9, _), (39, _)] ⟨rfl, rfl, rfl, rfl, rfl, rfl, rfl, trivial⟩ ?_
    refine nm_thn ?_
    refine ws_condN ringsOf_n34 ringsOf_n35 rfl rfl rfl rfl (fun hb39 => ?_) (fun hb39 => ?_)
    ·replace hb39 := of_decide_eq_true hb39
     refine ws_skip rfl ?_
     refine nm_sub [(1, _), (2, _), (5, _), (6, _), (8, _), (9, _)] ⟨rfl, rfl, rfl, rfl, rfl, rfl, trivial⟩ ?_
     refine nm_thn ?_
     refine ws_seqN ringsOf_n36 ringsOf_n37 rfl rfl rfl ?_
     refine ws_blockN ringsOf_n38 3 rfl rfl rfl ?_
     refine ws_seqN ringsOf_n39 ringsOf_n40 rfl rfl rfl ?_
     refine ws_region rfl ?_
     refine wlo 0 1 rfl rfl rfl (wo_run rfl rfl (run_fieldAddr rfl rfl Tryd.underlying24 rfl (ce22) (nf22)) ?_)
     refine wlo 1 2 rfl rfl rfl (wo_run rfl rfl (run_load1 rfl rfl Tryd.underlying22 rfl (S5.boxc (i := 1) rfl rfl)) ?_)
     refine wlm 2 3 rfl rfl rfl rfl rfl rfl rfl ?_
     refine wlo 3 4 rfl rfl rfl (wo_run rfl rfl (run_indexM (C := cdCr) k rfl rfl rfl sl22 (by first | rfl | omega) hdcrs (by first | omega | (simp only [lens]; omega))) ?_)
     refine wlo 4 5 rfl rfl rfl (wo_run rfl rfl (run_loadN (us := [_, _, _, _, _]) rfl rfl Tryd.underlying67 rfl sz67 (hdcrs.cellsAt S5.um (e := k) (by first | omega | (simp only [lens]; omega)) (j := 0) ⟨rfl, rfl, rfl, rfl, rfl, trivial⟩)) ?_)
     refine wlo 5 6 rfl rfl rfl (wo_alloc (l := [_, _, _, _, _]) rfl rfl rfl zr67 rfl S5 ?_)
     intro gb2 w6 S6; clear S5
     refine wlo 6 7 rfl rfl rfl (wo_storeB (i := 0) (us := [_, _, _, _, _]) (l' := [_, _, _, _, _]) (H' := [_, _, _]) rfl rfl S6 rfl rfl rfl rfl sz67 rfl rfl rfl rfl ?_)
     intro w7 S7; clear S6
     refine wl_end rfl ?_
     refine nm_sub [(1, _), (2, _), (5, _), (6, _), (8, _), (9, _), (10, _)] ⟨rfl, rfl, rfl, rfl, rfl, rfl, rfl, trivial⟩ ?_
     refine nm_thn ?_
     refine ws_seqN ringsOf_n41 ringsOf_n42 rfl rfl rfl ?_
     have hsda : 1 ≤ (ga d.crs k).a ∧ (ga d.crs k).a ≤ 2 * (d.crs.length : Int) := arcAt_bd hab (show k < d.crs.length by omega) (k := 0) (by omega)
     have hsdb : 1 ≤ (ga d.crs k).b ∧ (ga d.crs k).b ≤ 2 * (d.crs.length : Int) := arcAt_bd hab (show k < d.crs.length by omega) (k := 1) (by omega)
     have hsdc : 1 ≤ (ga d.crs k).c ∧ (ga d.crs k).c ≤ 2 * (d.crs.length : Int) := arcAt_bd hab (show k < d.crs.length by omega) (k := 2) (by omega)
     have hsdd : 1 ≤ (ga d.crs k).d ∧ (ga d.crs k).d ≤ 2 * (d.crs.length : Int) := arcAt_bd hab (show k < d.crs.length by omega) (k := 3) (by omega)
     refine ws_draw rfl (by kernel_rfl) S7 12 rfl ?_
     clear S7
     refine wa_takeP (i := 0) (d := 47) 11 rfl (by kernel_rfl) (by kernel_rfl) (by kernel_rfl) rfl rfl rfl (fun w8 => run_fieldAddr rfl rfl Tryd.underlying67 rfl (ce3) (nf3)) ?_
     refine wa_take (i := 1) (d := 48) 10 rfl (by kernel_rfl) (by kernel_rfl) (by kernel_rfl) rfl rfl rfl (fun M2 N2 w9 hle4 S9 => .inl (run_load1 rfl rfl Tryd.underlying3 rfl (S9.suf.boxc (i := 0) rfl rfl))) ?_
     refine wa_takeP (i := 2) (d := 49) 9 rfl (by kernel_rfl) (by kernel_rfl) (by kernel_rfl) rfl rfl rfl (fun w10 => run_fieldAddr rfl rfl Tryd.underlying67 rfl (ce3) (nf3)) ?_
     refine wa_take (i := 3) (d := 50) 8 rfl (by kernel_rfl) (by kernel_rfl) (by kernel_rfl) rfl rfl rfl (fun M4 N4 w11 hle6 S11 => .inl (run_load1 rfl rfl Tryd.underlying3 rfl (S11.suf.boxc (i := 0) rfl rfl))) ?_
     refine wa_takeP (i := 4) (d := 51) 7 rfl (by kernel_rfl) (by kernel_rfl) (by kernel_rfl) rfl rfl rfl (fun w12 => run_fieldAddr rfl rfl Tryd.underlying67 rfl (ce3) (nf3)) ?_
     refine wa_take (i := 5) (d := 52) 6 rfl (by kernel_rfl) (by kernel_rfl) (by kernel_rfl) rfl rfl rfl (fun M6 N6 w13 hle8 S13 => .inl (run_load1 rfl rfl Tryd.underlying3 rfl (S13.suf.boxc (i := 0) rfl rfl))) ?_
     refine wa_takeP (i := 6) (d := 53) 5 rfl (by kernel_rfl) (by kernel_rfl) (by kernel_rfl) rfl rfl rfl (fun w14 => run_fieldAddr rfl rfl Tryd.underlying67 rfl (ce3) (nf3)) ?_
     refine wa_take (i := 7) (d := 54) 4 rfl (by kernel_rfl) (by kernel_rfl) (by kernel_rfl) rfl rfl rfl (fun M8 N8 w15 hle10 S15 => .inl (run_load1 rfl rfl Tryd.underlying3 rfl (S15.suf.boxc (i := 0) rfl rfl))) ?_
     refine wa_takeP (i := 8) (d := 11) 3 rfl (by kernel_rfl) (by kernel_rfl) (by kernel_rfl) rfl rfl rfl (fun w16 => run_assign rfl rfl) ?_
     refine wa_takeP (i := 9) (d := 12) 2 rfl (by kernel_rfl) (by kernel_rfl) (by kernel_rfl) rfl rfl rfl (fun w17 => run_assign rfl rfl) ?_
     refine wa_takeP (i := 10) (d := 13) 1 rfl (by kernel_rfl) (by kernel_rfl) (by kernel_rfl) rfl rfl rfl (fun w18 => run_assign rfl rfl) ?_
     refine wa_takeP (i := 11) (d := 14) 0 rfl (by kernel_rfl) (by kernel_rfl) (by kernel_rfl) rfl rfl rfl (fun w19 => run_assign rfl rfl) ?_
     refine wa_end (by kernel_rfl) (fun w20 S20 => ?_)
     refine nm_sub [(1, _), (2, _), (5, _), (6, _), (8, _), (9, _), (10, _), (11, _), (12, _), (13, _), (14, _)] ⟨rfl, rfl, rfl, rfl, rfl, rfl, rfl, rfl, rfl, rfl, rfl, trivial⟩ ?_
     refine nm_thn ?_
     refine ws_seqN ringsOf_n43 ringsOf_n44 rfl rfl rfl ?_
     refine ws_seqN ringsOf_n45 ringsOf_n46 rfl rfl rfl ?_
     refine ws_region rfl ?_
     refine wlm 0 1 rfl rfl rfl rfl rfl rfl rfl ?_
     refine wlm 1 2 rfl rfl rfl rfl rfl rfl rfl ?_
     refine wlo 2 3 rfl rfl rfl (wo_run rfl rfl (run_shrN (s := s) (n := k) rfl rfl rfl (by first | omega | (simp only [lens]; omega))) ?_)
     refine wlo 3 4 rfl rfl rfl (wo_run rfl rfl (run_and1N (s := (s / 2 ^ k)) rfl rfl rfl) ?_)
     refine wlo 4 5 rfl rfl rfl (wo_run rfl rfl (run_eql rfl rfl rfl) ?_)
     refine wl_end rfl ?_
     refine nm_sub [(1, _), (2, _), (5, _), (6, _), (8, _), (9, _), (10, _), (11, _), (12, _), (13, _), (14, _), (59, _)] ⟨rfl, rfl, rfl, rfl, rfl, rfl, rfl, rfl, rfl, rfl, rfl, rfl, trivial⟩ ?_
     refine nm_thn ?_
     refine ws_condN ringsOf_n47 ringsOf_n48 rfl rfl rfl rfl (fun hb59 => ?_) (fun hb59 => ?_)
     ·replace hb59 := of_decide_eq_true hb59
      have hpr : prB (ga d.crs k) (bitN s k) = [((ga d.crs k).b.toNat, (ga d.crs k).c.toNat), ((ga d.crs k).d.toNat, (ga d.crs k).a.toNat)] := by unfold prB bitN; rw [if_pos (by omega)]
      have hps : prsF d (bitN s) (k + 1) = prsF d (bitN s) k ++ [((ga d.crs k).b.toNat, (ga d.crs k).c.toNat), ((ga d.crs k).d.toNat, (ga d.crs k).a.toNat)] := by rw [prsF, hpr]
      have hc9 : cmF d (bitN s) (k + 1) = cmF d (bitN s) k + mgC ws ((ga d.crs k).b.toNat) ((ga d.crs k).c.toNat) + mgC (mgW ws ((ga d.crs k).b.toNat) ((ga d.crs k).c.toNat)) ((ga d.crs k).d.toNat) ((ga d.crs k).a.toNat) := by unfold cmF; rw [hps, rnC_app, ← hw]
      have hml := mgW_len ws ((ga d.crs k).b.toNat) ((ga d.crs k).c.toNat)
      refine ws_draw rfl (by kernel_rfl) S20 12 rfl ?_
      clear S20
      refine wa_takeP (i := 0) (d := 60) 11 rfl (by kernel_rfl) (by kernel_rfl) (by kernel_rfl) rfl rfl rfl (fun w21 => run_fieldAddr rfl rfl Tryd.underlying67 rfl (ce3) (nf3)) ?_
      refine wa_take (i := 1) (d := 61) 10 rfl (by kernel_rfl) (by kernel_rfl) (by kernel_rfl) rfl rfl rfl (fun M14 N14 w22 hle16 S22 => .inl (run_load1 rfl rfl Tryd.underlying3 rfl (S22.suf.boxc (i := 0) rfl rfl))) ?_
      refine wa_takeP (i := 2) (d := 62) 9 rfl (by kernel_rfl) (by kernel_rfl) (by kernel_rfl) rfl rfl rfl (fun w23 => run_fieldAddr rfl rfl Tryd.underlying67 rfl (ce3) (nf3)) ?_
      refine wa_take (i := 3) (d := 63) 8 rfl (by kernel_rfl) (by kernel_rfl) (by kernel_rfl) rfl rfl rfl (fun M16 N16 w24 hle18 S24 => .inl (run_load1 rfl rfl Tryd.underlying3 rfl (S24.suf.boxc (i := 0) rfl rfl))) ?_
      refine wa_takeP (i := 4) (d := 64) 7 rfl (by kernel_rfl) (by kernel_rfl) (by kernel_rfl) rfl rfl rfl (fun w25 => run_fieldAddr rfl rfl Tryd.underlying67 rfl (ce3) (nf3)) ?_
      refine wa_take (i := 5) (d := 65) 6 rfl (by kernel_rfl) (by kernel_rfl) (by kernel_rfl) rfl rfl rfl (fun M18 N18 w26 hle20 S26 => .inl (run_load1 rfl rfl Tryd.underlying3 rfl (S26.suf.boxc (i := 0) rfl rfl))) ?_
      refine wa_takeP (i := 6) (d := 66) 5 rfl (by kernel_rfl) (by kernel_rfl) (by kernel_rfl) rfl rfl rfl (fun w27 => run_fieldAddr rfl rfl Tryd.underlying67 rfl (ce3) (nf3)) ?_
      refine wa_take (i := 7) (d := 67) 4 rfl (by kernel_rfl) (by kernel_rfl) (by kernel_rfl) rfl rfl rfl (fun M20 N20 w28 hle22 S28 => .inl (run_load1 rfl rfl Tryd.underlying3 rfl (S28.suf.boxc (i := 0) rfl rfl))) ?_
      refine wa_takeP (i := 8) (d := 11) 3 rfl (by kernel_rfl) (by kernel_rfl) (by kernel_rfl) rfl rfl rfl (fun w29 => run_assign rfl rfl) ?_
      refine wa_takeP (i := 9) (d := 12) 2 rfl (by kernel_rfl) (by kernel_rfl) (by kernel_rfl) rfl rfl rfl (fun w30 => run_assign rfl rfl) ?_
      refine wa_takeP (i := 10) (d := 13) 1 rfl (by kernel_rfl) (by kernel_rfl) (by kernel_rfl) rfl rfl rfl (fun w31 => run_assign rfl rfl) ?_
      refine wa_takeP (i := 11) (d := 14) 0 rfl (by kernel_rfl) (by kernel_rfl) (by kernel_rfl) rfl rfl rfl (fun w32 => run_assign rfl rfl) ?_
      refine wa_end (by kernel_rfl) (fun w33 S33 => ?_)
      refine nm_sub [(1, _), (2, _), (5, _), (6, _), (8, _), (9, _), (11, _), (12, _), (13, _), (14, _)] ⟨rfl, rfl, rfl, rfl, rfl, rfl, rfl, rfl, rfl, rfl, trivial⟩ ?_
      refine nm_thn ?_
      refine ws_seqN ringsOf_n49 ringsOf_n50 rfl rfl rfl ?_
      refine ws_seqN ringsOf_n51 ringsOf_n52 rfl rfl rfl ?_
      refine ws_region rfl ?_
      refine wlm 0 1 rfl rfl rfl rfl rfl rfl rfl ?_
      refine wlm 1 2 rfl rfl rfl rfl rfl rfl rfl ?_
      refine wlm 2 3 rfl rfl rfl rfl rfl rfl rfl ?_
      refine wlo 3 4 rfl rfl rfl (wo_c1 rfl rfl rfl rfl rfl rfl rfl cf31 S33 (i := 1) rfl (merge_wi vrx ws ((ga d.crs k).b) ((ga d.crs k).c) (by omega) (by omega) (by omega) (S33.lend1 (i := 1) rfl)) ?_)
      rintro vw34 w34 _ _ - S34 ⟨rfl, rfl, rfl⟩; clear S33
      change SH _ _ _ [_, _, _] at S34
      refine wl_end rfl ?_
      refine nm_sub [(1, _), (2, _), (5, _), (6, _), (8, _), (9, _), (13, _), (14, _), (71, _)] ⟨rfl, rfl, rfl, rfl, rfl, rfl, rfl, rfl, rfl, trivial⟩ ?_
      refine nm_thn ?_
      refine ws_condN ringsOf_n53 ringsOf_n54 rfl rfl rfl rfl (fun hb71 => ?_) (fun hb71 => ?_)
      ·replace hb71 := of_decide_eq_true hb71
       have hc71 : mgC ws ((ga d.crs k).b.toNat) ((ga d.crs k).c.toNat) = 1 := by unfold mgC; rw [if_neg hb71]
       refine ws_region rfl ?_
       refine wlm 0 1 rfl rfl rfl rfl rfl rfl rfl ?_
       refine wlo 1 2 rfl rfl rfl (wo_run rfl rfl (run_sub rfl rfl rfl (by first | omega | (simp only [lens]; omega))) ?_)
       refine wla 2 3 rfl rfl rfl rfl rfl rfl rfl ?_
       refine wl_end rfl ?_
       refine nm_sub [(1, _), (2, _), (5, _), (6, _), (8, _), (9, _), (13, _), (14, _)] ⟨rfl, rfl, rfl, rfl, rfl, rfl, rfl, rfl, trivial⟩ ?_
       refine nm_thn ?_
       refine ws_seqN ringsOf_n55 ringsOf_n56 rfl rfl rfl ?_
       refine ws_region rfl ?_
       refine wlm 0 1 rfl rfl rfl rfl rfl rfl rfl ?_
       refine wlm 1 2 rfl rfl rfl rfl rfl rfl rfl ?_
       refine wlm 2 3 rfl rfl rfl rfl rfl rfl rfl ?_
       refine wlo 3 4 rfl rfl rfl (wo_c1 rfl rfl rfl rfl rfl rfl rfl cf31 S34 (i := 1) rfl (merge_wi vrx (mgW ws ((ga d.crs k).b).toNat ((ga d.crs k).c).toNat) ((ga d.crs k).d) ((ga d.crs k).a) (by omega) (by omega) (by omega) (S34.lend1 (i := 1) rfl)) ?_)
       rintro vw35 w35 _ _ - S35 ⟨rfl, rfl, rfl⟩; clear S34
       change SH _ _ _ [_, _, _] at S35
       refine wl_end rfl ?_
       refine nm_sub [(1, _), (2, _), (5, _), (6, _), (8, _), (9, _), (77, _)] ⟨rfl, rfl, rfl, rfl, rfl, rfl, rfl, trivial⟩ ?_
       refine nm_thn ?_
       refine ws_condN ringsOf_n57 ringsOf_n58 rfl rfl rfl rfl (fun hb77 => ?_) (fun hb77 => ?_)
       ·replace hb77 := of_decide_eq_true hb77
        have hc77 : mgC (mgW ws ((ga d.crs k).b.toNat) ((ga d.crs k).c.toNat)) ((ga d.crs k).d.toNat) ((ga d.crs k).a.toNat) = 1 := by unfold mgC; rw [if_neg hb77]
        refine ws_region rfl ?_
        refine wlm 0 1 rfl rfl rfl rfl rfl rfl rfl ?_
        refine wlo 1 2 rfl rfl rfl (wo_run rfl rfl (run_sub rfl rfl rfl (by first | omega | (simp only [lens]; omega))) ?_)
        refine wla 2 3 rfl rfl rfl rfl rfl rfl rfl ?_
        refine wl_end rfl ?_
        refine nm_blk ?_
        refine nm_sub [(1, _), (2, _), (5, _), (6, _), (8, _), (9, _)] ⟨rfl, rfl, rfl, rfl, rfl, rfl, trivial⟩ ?_
        refine nm_thn ?_
        refine ws_region rfl ?_
        refine wlm 0 1 rfl rfl rfl rfl rfl rfl rfl ?_
        refine wlo 1 2 rfl rfl rfl (wo_run rfl rfl (run_add rfl rfl rfl (by first | omega | (simp only [lens]; omega))) ?_)
        refine wla 2 3 rfl rfl rfl rfl rfl rfl rfl ?_
        refine wl_end rfl ?_
        refine nm_lp ?_
        intro ax_ hax_
        refine ⟨_, ?hq4m, ⟨k + 1, mgW (mgW ws ((ga d.crs k).b).toNat ((ga d.crs k).c).toNat) ((ga d.crs k).d).toNat ((ga d.crs k).a).toNat, (rg - 1) - 1, _, rfl, hax_.sub ⟨rfl, rfl, rfl, rfl, rfl, rfl, trivial⟩, S35.pick [1, 2] [_, _] (by decide) ⟨rfl, rfl, trivial⟩, ?hq4f0, ?hq4f1, ?hq4f2⟩⟩
        case hq4f0 => omega
        case hq4f1 => (rw [hps, rnW_app, ← hw])
        case hq4f2 => (rw [hrg, hc9]; omega)
        case hq4m => omega
       ·replace hb77 := of_decide_eq_false hb77
        have hc77 : mgC (mgW ws ((ga d.crs k).b.toNat) ((ga d.crs k).c.toNat)) ((ga d.crs k).d.toNat) ((ga d.crs k).a.toNat) = 0 := by unfold mgC; rw [if_pos (Classical.not_not.1 hb77)]
        refine ws_skip rfl ?_
        refine nm_blk ?_
        refine nm_sub [(1, _), (2, _), (5, _), (6, _), (8, _), (9, _)] ⟨rfl, rfl, rfl, rfl, rfl, rfl, trivial⟩ ?_
        refine nm_thn ?_
        refine ws_region rfl ?_
        refine wlm 0 1 rfl rfl rfl rfl rfl rfl rfl ?_
        refine wlo 1 2 rfl rfl rfl (wo_run rfl rfl (run_add rfl rfl rfl (by first | omega | (simp only [lens]; omega))) ?_)
        refine wla 2 3 rfl rfl rfl rfl rfl rfl rfl ?_
        refine wl_end rfl ?_
        refine nm_lp ?_
        intro ax_ hax_
        refine ⟨_, ?hq5m, ⟨k + 1, mgW (mgW ws ((ga d.crs k).b).toNat ((ga d.crs k).c).toNat) ((ga d.crs k).d).toNat ((ga d.crs k).a).toNat, rg - 1, _, rfl, hax_.sub ⟨rfl, rfl, rfl, rfl, rfl, rfl, trivial⟩, S35.pick [1, 2] [_, _] (by decide) ⟨rfl, rfl, trivial⟩, ?hq5f0, ?hq5f1, ?hq5f2⟩⟩
        case hq5f0 => omega
        case hq5f1 => (rw [hps, rnW_app, ← hw])
        case hq5f2 => (rw [hrg, hc9]; omega)
        case hq5m => omega
      ·replace hb71 := of_decide_eq_false hb71
       have hc71 : mgC ws ((ga d.crs k).b.toNat) ((ga d.crs k).c.toNat) = 0 := by unfold mgC; rw [if_pos (Classical.not_not.1 hb71)]
       refine ws_skip rfl ?_
       refine nm_sub [(1, _), (2, _), (5, _), (6, _), (8, _), (9, _), (13, _), (14, _)] ⟨rfl, rfl, rfl, rfl, rfl, rfl, rfl, rfl, trivial⟩ ?_
       refine nm_thn ?_
       refine ws_seqN ringsOf_n55 ringsOf_n56 rfl rfl rfl ?_
       refine ws_region rfl ?_
       refine wlm 0 1 rfl rfl rfl rfl rfl rfl rfl ?_
       refine wlm 1 2 rfl rfl rfl rfl rfl rfl rfl ?_
       refine wlm 2 3 rfl rfl rfl rfl rfl rfl rfl ?_
       refine wlo 3 4 rfl rfl rfl (wo_c1 rfl rfl rfl rfl rfl rfl rfl cf31 S34 (i := 1) rfl (merge_wi vrx (mgW ws ((ga d.crs k).b).toNat ((ga d.crs k).c).toNat) ((ga d.crs k).d) ((ga d.crs k).a) (by omega) (by omega) (by omega) (S34.lend1 (i := 1) rfl)) ?_)
       rintro vw36 w36 _ _ - S36 ⟨rfl, rfl, rfl⟩; clear S34
       change SH _ _ _ [_, _, _] at S36
       refine wl_end rfl ?_
       refine nm_sub [(1, _), (2, _), (5, _), (6, _), (8, _), (9, _), (77, _)] ⟨rfl, rfl, rfl, rfl, rfl, rfl, rfl, trivial⟩ ?_
       refine nm_thn ?_
       refine ws_condN ringsOf_n57 ringsOf_n58 rfl rfl rfl rfl (fun hb77 => ?_) (fun hb77 => ?_)
       ·replace hb77 := of_decide_eq_true hb77
        have hc77 : mgC (mgW ws ((ga d.crs k).b.toNat) ((ga d.crs k).c.toNat)) ((ga d.crs k).d.toNat) ((ga d.crs k).a.toNat) = 1 := by unfold mgC; rw [if_neg hb77]
        refine ws_region rfl ?_
        refine wlm 0 1 rfl rfl rfl rfl rfl rfl rfl ?_
        refine wlo 1 2 rfl rfl rfl (wo_run rfl rfl (run_sub rfl rfl rfl (by first | omega | (simp only [lens]; omega))) ?_)
        refine wla 2 3 rfl rfl rfl rfl rfl rfl rfl ?_
        refine wl_end rfl ?_
        refine nm_blk ?_
        refine nm_sub [(1, _), (2, _), (5, _), (6, _), (8, _), (9, _)] ⟨rfl, rfl, rfl, rfl, rfl, rfl, trivial⟩ ?_
        refine nm_thn ?_
        refine ws_region rfl ?_
        refine wlm 0 1 rfl rfl rfl rfl rfl rfl rfl ?_
        refine wlo 1 2 rfl rfl rfl (wo_run rfl rfl (run_add rfl rfl rfl (by first | omega | (simp only [lens]; omega))) ?_)
        refine wla 2 3 rfl rfl rfl rfl rfl rfl rfl ?_
        refine wl_end rfl ?_
        refine nm_lp ?_
        intro ax_ hax_
        refine ⟨_, ?hq6m, ⟨k + 1, mgW (mgW ws ((ga d.crs k).b).toNat ((ga d.crs k).c).toNat) ((ga d.crs k).d).toNat ((ga d.crs k).a).toNat, rg - 1, _, rfl, hax_.sub ⟨rfl, rfl, rfl, rfl, rfl, rfl, trivial⟩, S36.pick [1, 2] [_, _] (by decide) ⟨rfl, rfl, trivial⟩, ?hq6f0, ?hq6f1, ?hq6f2⟩⟩
        case hq6f0 => omega
        case hq6f1 => (rw [hps, rnW_app, ← hw])
        case hq6f2 => (rw [hrg, hc9]; omega)
        case hq6m => omega
       ·replace hb77 := of_decide_eq_false hb77
        have hc77 : mgC (mgW ws ((ga d.crs k).b.toNat) ((ga d.crs k).c.toNat)) ((ga d.crs k).d.toNat) ((ga d.crs k).a.toNat) = 0 := by unfold mgC; rw [if_pos (Classical.not_not.1 hb77)]
        refine ws_skip rfl ?_
        refine nm_blk ?_
        refine nm_sub [(1, _), (2, _), (5, _), (6, _), (8, _), (9, _)] ⟨rfl, rfl, rfl, rfl, rfl, rfl, trivial⟩ ?_
        refine nm_thn ?_
        refine ws_region rfl ?_
        refine wlm 0 1 rfl rfl rfl rfl rfl rfl rfl ?_
        refine wlo 1 2 rfl rfl rfl (wo_run rfl rfl (run_add rfl rfl rfl (by first | omega | (simp only [lens]; omega))) ?_)
        refine wla 2 3 rfl rfl rfl rfl rfl rfl rfl ?_
        refine wl_end rfl ?_
        refine nm_lp ?_
        intro ax_ hax_
        refine ⟨_, ?hq7m, ⟨k + 1, mgW (mgW ws ((ga d.crs k).b).toNat ((ga d.crs k).c).toNat) ((ga d.crs k).d).toNat ((ga d.crs k).a).toNat, rg, _, rfl, hax_.sub ⟨rfl, rfl, rfl, rfl, rfl, rfl, trivial⟩, S36.pick [1, 2] [_, _] (by decide) ⟨rfl, rfl, trivial⟩, ?hq7f0, ?hq7f1, ?hq7f2⟩⟩
        case hq7f0 => omega
        case hq7f1 => (rw [hps, rnW_app, ← hw])
        case hq7f2 => (rw [hrg, hc9]; omega)
        case hq7m => omega
     ·replace hb59 := of_decide_eq_false hb59
      have hpr : prB (ga d.crs k) (bitN s k) = [((ga d.crs k).a.toNat, (ga d.crs k).b.toNat), ((ga d.crs k).c.toNat, (ga d.crs k).d.toNat)] := by unfold prB bitN; rw [if_neg (by omega)]
      have hps : prsF d (bitN s) (k + 1) = prsF d (bitN s) k ++ [((ga d.crs k).a.toNat, (ga d.crs k).b.toNat), ((ga d.crs k).c.toNat, (ga d.crs k).d.toNat)] := by rw [prsF, hpr]
      have hc9 : cmF d (bitN s) (k + 1) = cmF d (bitN s) k + mgC ws ((ga d.crs k).a.toNat) ((ga d.crs k).b.toNat) + mgC (mgW ws ((ga d.crs k).a.toNat) ((ga d.crs k).b.toNat)) ((ga d.crs k).c.toNat) ((ga d.crs k).d.toNat) := by unfold cmF; rw [hps, rnC_app, ← hw]
      have hml := mgW_len ws ((ga d.crs k).a.toNat) ((ga d.crs k).b.toNat)
      refine ws_skip rfl ?_
      refine nm_sub [(1, _), (2, _), (5, _), (6, _), (8, _), (9, _), (11, _), (12, _), (13, _), (14, _)] ⟨rfl, rfl, rfl, rfl, rfl, rfl, rfl, rfl, rfl, rfl, trivial⟩ ?_
      refine nm_thn ?_
      refine ws_seqN ringsOf_n49 ringsOf_n50 rfl rfl rfl ?_
      refine ws_seqN ringsOf_n51 ringsOf_n52 rfl rfl rfl ?_
      refine ws_region rfl ?_
      refine wlm 0 1 rfl rfl rfl rfl rfl rfl rfl ?_
      refine wlm 1 2 rfl rfl rfl rfl rfl rfl rfl ?_
      refine wlm 2 3 rfl rfl rfl rfl rfl rfl rfl ?_
      refine wlo 3 4 rfl rfl rfl (wo_c1 rfl rfl rfl rfl rfl rfl rfl cf31 S20 (i := 1) rfl (merge_wi vrx ws ((ga d.crs k).a) ((ga d.crs k).b) (by omega) (by omega) (by omega) (S20.lend1 (i := 1) rfl)) ?_)
      rintro vw37 w37 _ _ - S37 ⟨rfl, rfl, rfl⟩; clear S20
      change SH _ _ _ [_, _, _] at S37
      refine wl_end rfl ?_
      refine nm_sub [(1, _), (2, _), (5, _), (6, _), (8, _), (9, _), (13, _), (14, _), (71, _)] ⟨rfl, rfl, rfl, rfl, rfl, rfl, rfl, rfl, rfl, trivial⟩ ?_
      refine nm_thn ?_
      refine ws_condN ringsOf_n53 ringsOf_n54 rfl rfl rfl rfl (fun hb71 => ?_) (fun hb71 => ?_)
      ·replace hb71 := of_decide_eq_true hb71
       have hc71 : mgC ws ((ga d.crs k).a.toNat) ((ga d.crs k).b.toNat) = 1 := by unfold mgC; rw [if_neg hb71]
       refine ws_region rfl ?_
       refine wlm 0 1 rfl rfl rfl rfl rfl rfl rfl ?_
       refine wlo 1 2 rfl rfl rfl (wo_run rfl rfl (run_sub rfl rfl rfl (by first | omega | (simp only [lens]; omega))) ?_)
       refine wla 2 3 rfl rfl rfl rfl rfl rfl rfl ?_
       refine wl_end rfl ?_
       refine nm_sub [(1, _), (2, _), (5, _), (6, _), (8, _), (9, _), (13, _), (14, _)] ⟨rfl, rfl, rfl, rfl, rfl, rfl, rfl, rfl, trivial⟩ ?_
       refine nm_thn ?_
       refine ws_seqN ringsOf_n55 ringsOf_n56 rfl rfl rfl ?_
       refine ws_region rfl ?_
       refine wlm 0 1 rfl rfl rfl rfl rfl rfl rfl ?_
       refine wlm 1 2 rfl rfl rfl rfl rfl rfl rfl ?_
       refine wlm 2 3 rfl rfl rfl rfl rfl rfl rfl ?_
       refine wlo 3 4 rfl rfl rfl (wo_c1 rfl rfl rfl rfl rfl rfl rfl cf31 S37 (i := 1) rfl (merge_wi vrx (mgW ws ((ga d.crs k).a).toNat ((ga d.crs k).b).toNat) ((ga d.crs k).c) ((ga d.crs k).d) (by omega) (by omega) (by omega) (S37.lend1 (i := 1) rfl)) ?_)
       rintro vw38 w38 _ _ - S38 ⟨rfl, rfl, rfl⟩; clear S37
       change SH _ _ _ [_, _, _] at S38
       refine wl_end rfl ?_
       refine nm_sub [(1, _), (2, _), (5, _), (6, _), (8, _), (9, _), (77, _)] ⟨rfl, rfl, rfl, rfl, rfl, rfl, rfl, trivial⟩ ?_
       refine nm_thn ?_
       refine ws_condN ringsOf_n57 ringsOf_n58 rfl rfl rfl rfl (fun hb77 => ?_) (fun hb77 => ?_)
       ·replace hb77 := of_decide_eq_true hb77
        have hc77 : mgC (mgW ws ((ga d.crs k).a.toNat) ((ga d.crs k).b.toNat)) ((ga d.crs k).c.toNat) ((ga d.crs k).d.toNat) = 1 := by unfold mgC; rw [if_neg hb77]
        refine ws_region rfl ?_
        refine wlm 0 1 rfl rfl rfl rfl rfl rfl rfl ?_
        refine wlo 1 2 rfl rfl rfl (wo_run rfl rfl (run_sub rfl rfl rfl (by first | omega | (simp only [lens]; omega))) ?_)
        refine wla 2 3 rfl rfl rfl rfl rfl rfl rfl ?_
        refine wl_end rfl ?_
        refine nm_blk ?_
        refine nm_sub [(1, _), (2, _), (5, _), (6, _), (8, _), (9, _)] ⟨rfl, rfl, rfl, rfl, rfl, rfl, trivial⟩ ?_
        refine nm_thn ?_
        refine ws_region rfl ?_
        refine wlm 0 1 rfl rfl rfl rfl rfl rfl rfl ?_
        refine wlo 1 2 rfl rfl rfl (wo_run rfl rfl (run_add rfl rfl rfl (by first | omega | (simp only [lens]; omega))) ?_)
        refine wla 2 3 rfl rfl rfl rfl rfl rfl rfl ?_
        refine wl_end rfl ?_
        refine nm_lp ?_
        intro ax_ hax_
        refine ⟨_, ?hq8m, ⟨k + 1, mgW (mgW ws ((ga d.crs k).a).toNat ((ga d.crs k).b).toNat) ((ga d.crs k).c).toNat ((ga d.crs k).d).toNat, (rg - 1) - 1, _, rfl, hax_.sub ⟨rfl, rfl, rfl, rfl, rfl, rfl, trivial⟩, S38.pick [1, 2] [_, _] (by decide) ⟨rfl, rfl, trivial⟩, ?hq8f0, ?hq8f1, ?hq8f2⟩⟩
        case hq8f0 => omega
        case hq8f1 => (rw [hps, rnW_app, ← hw])
        case hq8f2 => (rw [hrg, hc9]; omega)
        case hq8m => omega
       ·replace hb77 := of_decide_eq_false hb77
        have hc77 : mgC (mgW ws ((ga d.crs k).a.toNat) ((ga d.crs k).b.toNat)) ((ga d.crs k).c.toNat) ((ga d.crs k).d.toNat) = 0 := by unfold mgC; rw [if_pos (Classical.not_not.1 hb77)]
        refine ws_skip rfl ?_
        refine nm_blk ?_
        refine nm_sub [(1, _), (2, _), (5, _), (6, _), (8, _), (9, _)] ⟨rfl, rfl, rfl, rfl, rfl, rfl, trivial⟩ ?_
        refine nm_thn ?_
        refine ws_region rfl ?_
        refine wlm 0 1 rfl rfl rfl rfl rfl rfl rfl ?_
        refine wlo 1 2 rfl rfl rfl (wo_run rfl rfl (run_add rfl rfl rfl (by first | omega | (simp only [lens]; omega))) ?_)
        refine wla 2 3 rfl rfl rfl rfl rfl rfl rfl ?_
        refine wl_end rfl ?_
        refine nm_lp ?_
        intro ax_ hax_
        refine ⟨_, ?hq9m, ⟨k + 1, mgW (mgW ws ((ga d.crs k).a).toNat ((ga d.crs k).b).toNat) ((ga d.crs k).c).toNat ((ga d.crs k).d).toNat, rg - 1, _, rfl, hax_.sub ⟨rfl, rfl, rfl, rfl, rfl, rfl, trivial⟩, S38.pick [1, 2] [_, _] (by decide) ⟨rfl, rfl, trivial⟩, ?hq9f0, ?hq9f1, ?hq9f2⟩⟩
        case hq9f0 => omega
        case hq9f1 => (rw [hps, rnW_app, ← hw])
        case hq9f2 => (rw [hrg, hc9]; omega)
        case hq9m => omega
      ·replace hb71 := of_decide_eq_false hb71
       have hc71 : mgC ws ((ga d.crs k).a.toNat) ((ga d.crs k).b.toNat) = 0 := by unfold mgC; rw [if_pos (Classical.not_not.1 hb71)]
       refine ws_skip rfl ?_
       refine nm_sub [(1, _), (2, _), (5, _), (6, _), (8, _), (9, _), (13, _), (14, _)] ⟨rfl, rfl, rfl, rfl, rfl, rfl, rfl, rfl, trivial⟩ ?_
       refine nm_thn ?_
       refine ws_seqN ringsOf_n55 ringsOf_n56 rfl rfl rfl ?_
       refine ws_region rfl ?_
       refine wlm 0 1 rfl rfl rfl rfl rfl rfl rfl ?_
       refine wlm 1 2 rfl rfl rfl rfl rfl rfl rfl ?_
       refine wlm 2 3 rfl rfl rfl rfl rfl rfl rfl ?_
       refine wlo 3 4 rfl rfl rfl (wo_c1 rfl rfl rfl rfl rfl rfl rfl cf31 S37 (i := 1) rfl (merge_wi vrx (mgW ws ((ga d.crs k).a).toNat ((ga d.crs k).b).toNat) ((ga d.crs k).c) ((ga d.crs k).d) (by omega) (by omega) (by omega) (S37.lend1 (i := 1) rfl)) ?_)
       rintro vw39 w39 _ _ - S39 ⟨rfl, rfl, rfl⟩; clear S37
       change SH _ _ _ [_, _, _] at S39
       refine wl_end rfl ?_
       refine nm_sub [(1, _), (2, _), (5, _), (6, _), (8, _), (9, _), (77, _)] ⟨rfl, rfl, rfl, rfl, rfl, rfl, rfl, trivial⟩ ?_
       refine nm_thn ?_
       refine ws_condN ringsOf_n57 ringsOf_n58 rfl rfl rfl rfl (fun hb77 => ?_) (fun hb77 => ?_)
       ·replace hb77 := of_decide_eq_true hb77
        have hc77 : mgC (mgW ws ((ga d.crs k).a.toNat) ((ga d.crs k).b.toNat)) ((ga d.crs k).c.toNat) ((ga d.crs k).d.toNat) = 1 := by unfold mgC; rw [if_neg hb77]
        refine ws_region rfl ?_
        refine wlm 0 1 rfl rfl rfl rfl rfl rfl rfl ?_
        refine wlo 1 2 rfl rfl rfl (wo_run rfl rfl (run_sub rfl rfl rfl (by first | omega | (simp only [lens]; omega))) ?_)
        refine wla 2 3 rfl rfl rfl rfl rfl rfl rfl ?_
        refine wl_end rfl ?_
        refine nm_blk ?_
        refine nm_sub [(1, _), (2, _), (5, _), (6, _), (8, _), (9, _)] ⟨rfl, rfl, rfl, rfl, rfl, rfl, trivial⟩ ?_
        refine nm_thn ?_
        refine ws_region rfl ?_
        refine wlm 0 1 rfl rfl rfl rfl rfl rfl rfl ?_
        refine wlo 1 2 rfl rfl rfl (wo_run rfl rfl (run_add rfl rfl rfl (by first | omega | (simp only [lens]; omega))) ?_)
        refine wla 2 3 rfl rfl rfl rfl rfl rfl rfl ?_
        refine wl_end rfl ?_
        refine nm_lp ?_
        intro ax_ hax_
        refine ⟨_, ?hq10m, ⟨k + 1, mgW (mgW ws ((ga d.crs k).a).toNat ((ga d.crs k).b).toNat) ((ga d.crs k).c).toNat ((ga d.crs k).d).toNat, rg - 1, _, rfl, hax_.sub ⟨rfl, rfl, rfl, rfl, rfl, rfl, trivial⟩, S39.pick [1, 2] [_, _] (by decide) ⟨rfl, rfl, trivial⟩, ?hq10f0, ?hq10f1, ?hq10f2⟩⟩
        case hq10f0 => omega
        case hq10f1 => (rw [hps, rnW_app, ← hw])
        case hq10f2 => (rw [hrg, hc9]; omega)
        case hq10m => omega
       ·replace hb77 := of_decide_eq_false hb77
        have hc77 : mgC (mgW ws ((ga d.crs k).a.toNat) ((ga d.crs k).b.toNat)) ((ga d.crs k).c.toNat) ((ga d.crs k).d.toNat) = 0 := by unfold mgC; rw [if_pos (Classical.not_not.1 hb77)]
        refine ws_skip rfl ?_
        refine nm_blk ?_
        refine nm_sub [(1, _), (2, _), (5, _), (6, _), (8, _), (9, _)] ⟨rfl, rfl, rfl, rfl, rfl, rfl, trivial⟩ ?_
        refine nm_thn ?_
        refine ws_region rfl ?_
        refine wlm 0 1 rfl rfl rfl rfl rfl rfl rfl ?_
        refine wlo 1 2 rfl rfl rfl (wo_run rfl rfl (run_add rfl rfl rfl (by first | omega | (simp only [lens]; omega))) ?_)
        refine wla 2 3 rfl rfl rfl rfl rfl rfl rfl ?_
        refine wl_end rfl ?_
        refine nm_lp ?_
        intro ax_ hax_
        refine ⟨_, ?hq11m, ⟨k + 1, mgW (mgW ws ((ga d.crs k).a).toNat ((ga d.crs k).b).toNat) ((ga d.crs k).c).toNat ((ga d.crs k).d).toNat, rg, _, rfl, hax_.sub ⟨rfl, rfl, rfl, rfl, rfl, rfl, trivial⟩, S39.pick [1, 2] [_, _] (by decide) ⟨rfl, rfl, trivial⟩, ?hq11f0, ?hq11f1, ?hq11f2⟩⟩
        case hq11f0 => omega
        case hq11f1 => (rw [hps, rnW_app, ← hw])
        case hq11f2 => (rw [hrg, hc9]; omega)
        case hq11m => omega
    ·replace hb39 := of_decide_eq_false hb39
     refine ws_exit rfl rfl ?_
     refine nm_sub [(8, _)] ⟨rfl, trivial⟩ ?_
     refine nm_thn ?_
     refine ws_seqN ringsOf_n59 ringsOf_n60 rfl rfl rfl ?_
     refine ws_region rfl ?_
     refine wlm 0 1 rfl rfl rfl rfl rfl rfl rfl ?_
     refine wla 1 2 rfl rfl rfl rfl rfl rfl rfl ?_
     refine wl_end rfl ?_
     refine nm_sub [(4, _)] ⟨rfl, trivial⟩ ?_
     refine nm_thn ?_
     refine ws_ret hC [_] rfl rfl ⟨rfl, trivial⟩ ?_
     exact ⟨_, rfl, (S5.pick [] [] (by decide) trivial), (congrArg (Value.int .i64) (by rw [hrg]; unfold rngF; rw [show d.crs.length = k by omega]))⟩
end Go.Proofs.YtlmcnpbkmihjkaaDoor
namespace Go.Proofs.YtlmcnpbkmihjkaaDoor
open Go.ChangeShapes Go.WideShapes Go.ChangeAt Go.RowKit
section
variable {α : Type} {C : Cd α} {N N' : Hp} {vs vs' : List SlV} {xss yss : List (List α)}
/-- The inner lists' own lists. -/
def RdD (C : Cd α) (N : Hp) (svs : List (List SlV)) (mm : List (List (List α))) : Prop := svs.length = mm.length ∧ ∀ i, i < svs.length → Rd2 C N (ga svs i) (ga mm i)
variable {svs : List (List SlV)} {mm : List (List (List α))}
theorem RdD.mono (h : RdD C N svs mm) (k : N.le N') : RdD C N' svs mm := ⟨h.1, fun i hi => (h.2 i hi).mono k⟩
theorem RdD.nil_ : RdD C N [] [] := ⟨rfl, fun i hi => by simp at hi⟩
end
section
variable {P : Program} {o : Oper} {L : List (Nat × Value)} {w : World} {x hx : Operand} {t tn T : TypeId} {n d : Nat} {Kt : List (Nat × Value) → World → Prop} {M : Hp} {X : Fr} {H : List Rs}
end
end Go.Proofs.YtlmcnpbkmihjkaaDoor
namespace Go.Proofs.YtlmcnpbkmihjkaaDoor
open Go.ChangeShapes Go.WideShapes Go.ChangeAt Go.RowKit
theorem SH.down {w : World} {M M' : Hp} {X : Fr} {H : List Rs} (S : SH w M' X H) (h : M.le M') : SH w M X H := by
  have hn : ∀ b, M' b = none → M b = none := fun b e => by
    cases hm : M b with
    | none => rfl
    | some o => rw [h b o hm] at e; cases e
  exact ⟨h.trans S.m, S.x, fun b o e => hn b (S.mx b o e), S.ok, fun r hr b hb => ⟨(S.bl r hr b hb).1, hn b (S.bl r hr b hb).2.1, (S.bl r hr b hb).2.2⟩, S.ap, S.like⟩
/-- No block stands in two things. -/
def apartL (H : List Rs) : Prop := H.Pairwise fun r s => ∀ b ∈ r.bl, b ∉ s.bl
theorem apart_iff {H : List Rs} : apartL H ↔ ∀ (i j : Nat) r s, i ≠ j → H[i]? = some r → H[j]? = some s → ∀ b ∈ r.bl, b ∉ s.bl := by
  unfold apartL
  rw [List.pairwise_iff_getElem]
  constructor
  · intro h i j r s hij hi hj b hb hbs
    obtain ⟨i1, e1⟩ := List.getElem?_eq_some_iff.1 hi
    obtain ⟨j1, e2⟩ := List.getElem?_eq_some_iff.1 hj
    rcases Nat.lt_or_ge i j with h1 | h1
    · exact h i j i1 j1 h1 b (by rw [e1]; exact hb) (by rw [e2]; exact hbs)
    · exact h j i j1 i1 (by omega) b (by rw [e2]; exact hbs) (by rw [e1]; exact hb)
  · intro h i j hi hj hij
    exact h i j _ _ (by omega) (List.getElem?_eq_getElem hi) (List.getElem?_eq_getElem hj)
section
variable {w : World} {M : Hp} {X : Fr} {A B H H' : List Rs}
theorem SH.perm (S : SH w M X H) (h : H.Perm H') : SH w M X H' :=
  ⟨S.m, S.x, S.mx, fun r hr => S.ok r (h.mem_iff.2 hr), fun r hr => S.bl r (h.mem_iff.2 hr), apart_iff.1 ((h.pairwise_iff (fun {_ _} hrs b hb hbr => hrs b hbr hb)).1 (apart_iff.2 S.ap)), S.like⟩
theorem SH.bunC (S : SH w M X (A ++ B)) : SH w M X (Rs.bun A :: B) := by
  have hap := apart_iff.2 S.ap
  obtain ⟨h1, h2, h3⟩ := List.pairwise_append.1 hap
  refine ⟨S.m, S.x, S.mx, fun r hr => ?_, fun r hr b hb => ?_, apart_iff.1 (List.pairwise_cons.2 ⟨fun s hs b hb => ?_, h2⟩), S.like⟩
  · rcases List.mem_cons.1 hr with rfl | hr
    · exact ⟨fun r hr => S.ok r (by simp [hr]), apart_iff.1 h1⟩
    · exact S.ok r (by simp [hr])
  · rcases List.mem_cons.1 hr with rfl | hr
    · obtain ⟨q, hq, hb⟩ := List.mem_flatMap.1 hb
      exact S.bl q (by simp [hq]) b hb
    · exact S.bl r (by simp [hr]) b hb
  · obtain ⟨q, hq, hb⟩ := List.mem_flatMap.1 hb
    exact h3 q hq s hs b hb
theorem SH.unbunC (S : SH w M X (Rs.bun A :: B)) : SH w M X (A ++ B) := by
  obtain ⟨hok, hap⟩ := S.ok (Rs.bun A) (by simp)
  obtain ⟨h1, h2⟩ := List.pairwise_cons.1 (apart_iff.2 S.ap)
  refine ⟨S.m, S.x, S.mx, fun r hr => ?_, fun r hr b hb => ?_, apart_iff.1 (List.pairwise_append.2 ⟨apart_iff.2 hap, h2, fun r hr s hs b hb => h1 s hs b (List.mem_flatMap.2 ⟨r, hr, hb⟩)⟩), S.like⟩
  · rcases List.mem_append.1 hr with hr | hr
    · exact hok r hr
    · exact S.ok r (by simp [hr])
  · rcases List.mem_append.1 hr with hr | hr
    · exact S.bl (Rs.bun A) (by simp) b (List.mem_flatMap.2 ⟨r, hr, hb⟩)
    · exact S.bl r (by simp [hr]) b hb
end
def rgA : Code → Code
  | .rangeFunc _ _ a _ => a
  | c => c
def rgB : Code → Code
  | .rangeFunc _ _ _ b => b
  | c => c
namespace InF
section
variable {P : Program} {n : Nat} {C : Ctx} {c : Code} {s : List K} {L : List (Nat × Value)} {w : World} {M : Hp} {X : Fr} {H : List Rs}
/-- What is asked of the function that is ranged over: from s0 on each value that it yields takes one step; in the end fin holds. -/
def IterX {σ : Type} (P : Program) (f : FuncId) (lb : List Value) (s0 : σ) (stp : σ → Value → σ → Prop) (fin : σ → Prop) (M : Hp) (X : Fr) : Prop :=
  ∀ (l : Nat) (J : σ → Hp → Rs → Prop) (w : World) (M1 : Hp) (B : Rs), M.le M1 →
    (∀ k v k' M' B' H0 w', stp k v k' → M1.le M' → SH w' M' X (B' :: H0) → J k M' B' → YieldAt Fence.wide 0 P l #[v] w' fun e w'' => ∃ u, e = .returned u ∧ u = .bool true ∧ ∃ M'' B'', M'.le M'' ∧ SH w'' M'' X (B'' :: H0) ∧ J k' M'' B'') →
    SH w M1 X [B] → J s0 M1 B → CallsIn Fence.wide 0 P f ((Value.func (.yield l) #[] #[]) :: lb).toArray w fun e w' => (∃ v, e = .returned v) ∧ ∃ k M' B', fin k ∧ M1.le M' ∧ SH w' M' X [B'] ∧ J k M' B'
theorem ws_rangeFuncX {σ : Type} {s0 : σ} {stp : σ → Value → σ → Prop} {fin : σ → Prop} {p : Nat} {g : Operand} {asg bd : Code} {f : FuncId} {lb : List Value} (hr : C.r = none) (hc : c = .rangeFunc g #[p] asg bd) (hp' : Nat.blt p n = true) (hg : oev L g = some (.func (.func f) #[] lb.toArray)) (hen : ∀ args w, (callFunc f args).run P w = .ok (.enter f args) w)
    (S : SH w M X H) (I : σ → Hp → List Rs → Prop) (I1 : σ → Act → Hp → List Rs → Prop) (h0 : I s0 M H) (hit : IterX P f lb s0 stp fin M X)
    (hassign : ∀ (k k' : σ) (v : Value) (M' : Hp) (H' : List Rs) (w' : World) (C' : Ctx) (R0 : Rs), stp k v k' → M.le M' → SH w' M' X (R0 :: H') → I k M' H' → WS P n C' asg [.lp (fun a w'' => ∃ M'' H'', M'.le M'' ∧ SH w'' M'' X (R0 :: H'') ∧ I1 k' a M'' H'')] ((p, v) :: L) w')
    (hbody : ∀ (k : σ) (M' : Hp) (H' : List Rs) (w' : World) (C' : Ctx) (R0 : Rs) (a : Act), M.le M' → SH w' M' X (R0 :: H') → I1 k a M' H' → bd.wpIn C'.F 0 P (post P C' [.lp (fun _ w'' => ∃ M'' H'', M'.le M'' ∧ SH w'' M'' X (R0 :: H'') ∧ I k M'' H'')]) a w')
    (hdone : ∀ (k : σ) (a : Act) (M' : Hp) (H' : List Rs) (w' : World) (D l : Nat) (rc : Loop), fin k → Env n L a → M.le M' → SH w' M' X (Rs.lr l D rc :: H') → I k M' H' → post P C s .normal { a with defers := [{ target := .collected D, args := #[] }] } w') : WS P n C c s L w := by
  have hF : C.F = Fence.wide := by unfold Ctx.F; rw [hr]
  intro a ha
  subst hc
  rw [hF]
  refine wpIn_rangeFunc ?_
  intro fn _
  rw [show Fence.wide.round = none from rfl]
  obtain ⟨rec, hrec⟩ : ∃ rec : LoopState → Loop, rec = fun st => { state := st, pending := none, fn, tmps := a.tmps, params := #[p], assign := asg, body := bd, defers := w.heap.size } := ⟨_, rfl⟩
  obtain ⟨W1, hW1⟩ : ∃ W1, (w.alloc (.deferred (some []))).alloc (.loop (rec .ready)) = W1 := ⟨_, rfl⟩
  have hL1 : W1.heap[w.heap.size + 1]? = some (.loop (rec .ready)) := by
    rw [← hW1]; have := World.alloc_heap_new (w.alloc (.deferred (some []))) (.loop (rec .ready)); rwa [World.size_alloc] at this
  have hK1 : W1.heap[w.heap.size]? = some (.deferred (some [])) := by
    rw [← hW1]; exact (Below.heap_alloc _ _ _ (by simp)).trans (World.alloc_heap_new w _)
  have hkeep : ∀ b, b < w.heap.size → hp W1 b = hp w b := fun b hb => by
    rw [← hW1]
    exact (keep_alloc (w.alloc (.deferred (some []))) _ b (by rw [size_al]; omega)).trans (keep_alloc w _ b hb)
  have S1 : SH W1 M X (Rs.lr (w.heap.size + 1) w.heap.size (rec .ready) :: H) := by
    have hl : Like w W1 := by rw [← hW1]; exact (like_alloc w _).trans (like_alloc _ _)
    refine S.cons hl hkeep ⟨hL1, hK1⟩ (fun b hb => ?_)
    have hsz : W1.heap.size = w.heap.size + 2 := by rw [← hW1, size_al, size_al]
    simp only [Rs.lr, List.mem_cons, List.not_mem_nil, or_false] at hb
    omega
  have hdf : a.defers = [] := ha.df
  refine ⟨w.heap.size + 1, [{ target := .collected w.heap.size, args := #[] }], W1, { target := .fn (.func f) lb.toArray, args := #[.func (.yield (w.heap.size + 1)) #[] #[]] }, W1, f,
    #[.func (.yield (w.heap.size + 1)) #[] #[]] ++ lb.toArray, W1, ?_, ?_, fun _ _ => trivial, ?_, fun h => (by cases h), ?_⟩
  · rw [← hW1, hrec]; exact run_enterLoop_outer _ _ _ _ _
  · simp only [resolve, ha.eval hg]
    simp [go_sem]
  · simp [invoke, go_sem, hen]
  · rw [show (#[.func (.yield (w.heap.size + 1)) #[] #[]] ++ lb.toArray : Array Value) = ((Value.func (.yield (w.heap.size + 1)) #[] #[]) :: lb).toArray from by simp]
    refine (hit (w.heap.size + 1) (fun k M' B => ∃ H', B = Rs.bun (Rs.lr (w.heap.size + 1) w.heap.size (rec .ready) :: H') ∧ I k M' H') W1 M _ (Hp.le_refl _) ?_ S1.bun ⟨H, rfl, h0⟩).mono ?_
    · rintro k v k' M' B' H0 w' hk hle SB ⟨H', rfl, hI⟩
      have sw : ∀ (q : Rs) (A : List Rs), (q :: A ++ H0).Perm (q :: H0 ++ A) := fun q A => by simpa using (List.perm_append_comm : (A ++ H0).Perm (H0 ++ A))
      have S' := SB.unbunC.perm (sw _ _)
      obtain ⟨hl, hD⟩ := S'.ok (Rs.lr (w.heap.size + 1) w.heap.size (rec .ready)) (by simp)
      have hy := run_yield (P := P) (args := #[v]) hl (by rw [hrec]; rfl)
      rw [hrec] at hy
      refine ⟨fn, _, asg, bd, hy, roundIn_of_wpIn trivial ?_⟩
      have hC' : (Ctx.mk (fun _ _ _ => False) (some (w.heap.size + 1))).F = Fence.wide.inRound (w.heap.size + 1) := rfl
      have e1 : ((#[p] : Array Tmp).zip #[v]).foldl (fun tmps (t, a) => tmps.setIfInBounds t a) a.tmps = a.tmps.setIfInBounds p v := by simp
      rw [← hC']
      have hA := hassign k k' v M' H' w' (Ctx.mk (fun _ _ _ => False) (some (w.heap.size + 1))) (Rs.bun (Rs.lr (w.heap.size + 1) w.heap.size (rec .ready) :: H0)) hk hle S'.bunC hI _ (env_start ha (by simpa using hp'))
      rw [e1]
      refine wpIn_mono hA ?_
      rintro e a2 w2 hq
      cases e with
      | normal =>
        obtain ⟨M2, H2, hle2, S2b, hI1⟩ := hq
        have S2 := S2b.unbunC
        obtain ⟨hl2, _⟩ := S2.ok (Rs.lr (w.heap.size + 1) w.heap.size (rec .ready)) (by simp)
        refine ⟨_, run_beginRound hl2 (by rw [hrec]), ?_⟩
        have S3 := lr_put (rc' := { rec .ready with state := .busy }) S2
        refine wpIn_mono (hbody k' M2 H2 _ (Ctx.mk (fun _ _ _ => False) (some (w.heap.size + 1))) _ a2 (hle.trans hle2) (SH.bunC (A := Rs.lr (w.heap.size + 1) w.heap.size { rec .ready with state := .busy } :: H0) (B := H2) S3) hI1) ?_
        rintro e a3 w3 hq3
        cases e with
        | normal =>
          obtain ⟨M4, H4, hle4, S4b, hI4⟩ := hq3
          have S4 := S4b.unbunC
          obtain ⟨hl4, _⟩ := S4.ok (Rs.lr (w.heap.size + 1) w.heap.size { rec .ready with state := .busy }) (by simp)
          have he := run_endRound (P := P) none hl4
          have S5 := lr_put (rc' := rec .ready) S4
          refine ⟨_, _, he, _, rfl, rfl, M4, Rs.bun (Rs.lr (w.heap.size + 1) w.heap.size (rec .ready) :: H4), hle2.trans hle4, ?_, H4, rfl, hI4⟩
          have e2 : ({ ({ rec .ready with state := .busy } : Loop) with state := (if (none : Option Code).isNone = true then LoopState.ready else LoopState.done), pending := none } : Loop) = rec .ready := by rw [hrec]; rfl
          rw [e2]
          exact SH.bunC (A := Rs.lr (w.heap.size + 1) w.heap.size (rec .ready) :: H4) (B := H0) (SH.perm (H := Rs.lr (w.heap.size + 1) w.heap.size (rec .ready) :: H0 ++ H4) S5 (sw (Rs.lr (w.heap.size + 1) w.heap.size (rec .ready)) H4).symm)
        | _ => exact hq3.elim
      | _ => exact hq.elim
    · rintro e w2 ⟨⟨v, rfl⟩, k, M', B', hfin, hle, SB, H', rfl, hI⟩
      have S' := SB.unbun
      obtain ⟨hl, hD⟩ := S'.ok (Rs.lr (w.heap.size + 1) w.heap.size (rec .ready)) (by simp)
      have he := run_endLoop (P := P) hl (by rw [hrec]; simp)
      refine ⟨none, w2.putObj (w.heap.size + 1) (.loop { rec .ready with state := .exhausted }), by rw [he, hrec], ?_⟩
      have := hdone k a M' H' _ w.heap.size (w.heap.size + 1) _ hfin ha hle (lr_put (rc' := { rec .ready with state := .exhausted }) S') hI
      rw [hdf]
      exact this
end
end InF
end Go.Proofs.YtlmcnpbkmihjkaaDoor
namespace Go.Proofs.YtlmcnpbkmihjkaaDoor
open Go.ChangeShapes Go.WideShapes Go.ChangeAt Go.RowKit
section
variable {P : Program} {o : Oper} {L : List (Nat × Value)} {w w' : World} {x y : Operand} {T E : TypeId} {a : Int} {v : Value} {M : Hp} {X : Fr} {H N : List Rs} {i g : Nat} {l : List Value}
theorem yield_cqF {o : Oper} {fid : FuncId} {vs cap : List Value} {ca : Call} {fo : Operand} {xs : List Operand} {v : Value} (hop : o.op = .call ca) (hca : ca.callee = .value fo) (hfo : oev L fo = some (.func (.func fid) #[] cap.toArray))
    (hxs : ca.args = xs.toArray) (hvs : oevs L xs = some vs) (hen : ∀ args w, (callFunc fid args).run P w = .ok (.enter fid args) w) (S : SH w M X H) (hc : Cq P fid (vs ++ cap) w M (XH w X H) (fun u => u = v)) :
    Run P o L w v w ∨ ∃ fid vs, (∀ n a, Env n L a → (execOp a.eval o).run P w = .ok (.enter fid vs) w) ∧ Calls P fid vs w fun e w3 => e = .returned v ∧ SH w3 M X H := by
  refine .inr ⟨fid, (vs ++ cap).toArray, fun n a ha => ?_, hc.mono fun e w3 ⟨u, h1, h2, h3⟩ => ⟨by rw [h1, h3], S.back h2⟩⟩
  unfold execOp
  simp only [hop, resolve, hca, ha.eval hfo, hxs, List.map_toArray, ha.evals hvs, Deferred.ofValue, Sem.run_bind, Sem.run_pure, Result.andThen_ok, invoke, Array.empty_append, List.append_toArray]
  exact hen _ _
theorem nth_app (N H : List Rs) (i : Nat) : nth (N ++ H) (N.length + i) = nth H i := by
  rw [nth_eq, nth_eq, List.getElem?_append_right (by omega)]
  congr 1
  omega
theorem SH.boxMs (S : SH w M X (N ++ H)) (hi : nth H i = some (Rs.box g E l)) : BxM (M.un (XH w X (N ++ H)).h) g E l := S.boxM (i := N.length + i) (by rw [nth_app]; exact hi)
theorem run_indexA2 {e : Nat} {p q r s : Value} {dd : TypeDesc} (hop : o.op = .index T x y) (hx : oev L x = some (.agg [p, q, r, s].toArray)) (hy : oev L y = some (.int .i64 a)) (hu : P.underlying T = some (.array 2 E)) (hE : P.underlying E = some dd) (hf : flatD dd = false) (hk : (P.info? E).map (·.size) = some 2)
    (ha : a = (e : Int)) (he : e < 2) : Run P o L w (.agg [if e = 0 then p else r, if e = 0 then q else s].toArray) w := by
  intro n c hc
  unfold execOp
  have h1 : (0 : Int) ≤ (e : Int) ∧ (e : Int) < ((2 : Nat) : Int) := by omega
  simp only [hop, hc.eval hx, hc.eval hy, Instr.index, asIntOf, Sem.run_bind, Sem.run_pure, Result.andThen_ok, run_underlying hu, ha, h1, and_self, if_true, run_sizeOf hk, Int.toNat_natCast, part, run_isAgg hE, hf, Bool.not_false]
  have : e = 0 ∨ e = 1 := by omega
  rcases this with rfl | rfl <;> rfl
end
end Go.Proofs.YtlmcnpbkmihjkaaDoor
namespace Go.Proofs.YtlmcnpbkmihjkaaDoor
open Go.ChangeShapes Go.WideShapes Go.ChangeAt Go.RowKit
theorem nth_fn25 (f : Nat → Value) : ∀ {e : Nat}, e < 25 → nth [f 0, f 1, f 2, f 3, f 4, f 5, f 6, f 7, f 8, f 9, f 10, f 11, f 12, f 13, f 14, f 15, f 16, f 17, f 18, f 19, f 20, f 21, f 22, f 23, f 24] (0 + e * 1) = some (f e)
  | 0, _ => rfl
  | 1, _ => rfl
  | 2, _ => rfl
  | 3, _ => rfl
  | 4, _ => rfl
  | 5, _ => rfl
  | 6, _ => rfl
  | 7, _ => rfl
  | 8, _ => rfl
  | 9, _ => rfl
  | 10, _ => rfl
  | 11, _ => rfl
  | 12, _ => rfl
  | 13, _ => rfl
  | 14, _ => rfl
  | 15, _ => rfl
  | 16, _ => rfl
  | 17, _ => rfl
  | 18, _ => rfl
  | 19, _ => rfl
  | 20, _ => rfl
  | 21, _ => rfl
  | 22, _ => rfl
  | 23, _ => rfl
  | 24, _ => rfl
  | n + 25, h => by omega
theorem ble_fn25 (f : Nat → Value) (v : Value) : ∀ {e : Nat}, e < 25 → Nat.ble (0 + e * 1 + [v].length) [f 0, f 1, f 2, f 3, f 4, f 5, f 6, f 7, f 8, f 9, f 10, f 11, f 12, f 13, f 14, f 15, f 16, f 17, f 18, f 19, f 20, f 21, f 22, f 23, f 24].length = true
  | 0, _ => rfl
  | 1, _ => rfl
  | 2, _ => rfl
  | 3, _ => rfl
  | 4, _ => rfl
  | 5, _ => rfl
  | 6, _ => rfl
  | 7, _ => rfl
  | 8, _ => rfl
  | 9, _ => rfl
  | 10, _ => rfl
  | 11, _ => rfl
  | 12, _ => rfl
  | 13, _ => rfl
  | 14, _ => rfl
  | 15, _ => rfl
  | 16, _ => rfl
  | 17, _ => rfl
  | 18, _ => rfl
  | 19, _ => rfl
  | 20, _ => rfl
  | 21, _ => rfl
  | 22, _ => rfl
  | 23, _ => rfl
  | 24, _ => rfl
  | n + 25, h => by omega
theorem spl_fn25 (f : Nat → Value) (v : Value) : ∀ {e : Nat}, e < 25 → spl [f 0, f 1, f 2, f 3, f 4, f 5, f 6, f 7, f 8, f 9, f 10, f 11, f 12, f 13, f 14, f 15, f 16, f 17, f 18, f 19, f 20, f 21, f 22, f 23, f 24] (0 + e * 1) [v] = [if 0 = e then v else f 0, if 1 = e then v else f 1, if 2 = e then v else f 2, if 3 = e then v else f 3, if 4 = e then v else f 4, if 5 = e then v else f 5, if 6 = e then v else f 6, if 7 = e then v else f 7, if 8 = e then v else f 8, if 9 = e then v else f 9, if 10 = e then v else f 10, if 11 = e then v else f 11, if 12 = e then v else f 12, if 13 = e then v else f 13, if 14 = e then v else f 14, if 15 = e then v else f 15, if 16 = e then v else f 16, if 17 = e then v else f 17, if 18 = e then v else f 18, if 19 = e then v else f 19, if 20 = e then v else f 20, if 21 = e then v else f 21, if 22 = e then v else f 22, if 23 = e then v else f 23, if 24 = e then v else f 24]
  | 0, _ => rfl
  | 1, _ => rfl
  | 2, _ => rfl
  | 3, _ => rfl
  | 4, _ => rfl
  | 5, _ => rfl
  | 6, _ => rfl
  | 7, _ => rfl
  | 8, _ => rfl
  | 9, _ => rfl
  | 10, _ => rfl
  | 11, _ => rfl
  | 12, _ => rfl
  | 13, _ => rfl
  | 14, _ => rfl
  | 15, _ => rfl
  | 16, _ => rfl
  | 17, _ => rfl
  | 18, _ => rfl
  | 19, _ => rfl
  | 20, _ => rfl
  | 21, _ => rfl
  | 22, _ => rfl
  | 23, _ => rfl
  | 24, _ => rfl
  | n + 25, h => by omega
theorem spl_g25 (cls : List Int) (v : Int) {e : Nat} (h : e < 25) (hl : cls.length = 25) : spl [Value.int .i64 (ga cls 0), Value.int .i64 (ga cls 1), Value.int .i64 (ga cls 2), Value.int .i64 (ga cls 3), Value.int .i64 (ga cls 4), Value.int .i64 (ga cls 5), Value.int .i64 (ga cls 6), Value.int .i64 (ga cls 7), Value.int .i64 (ga cls 8), Value.int .i64 (ga cls 9), Value.int .i64 (ga cls 10), Value.int .i64 (ga cls 11), Value.int .i64 (ga cls 12), Value.int .i64 (ga cls 13), Value.int .i64 (ga cls 14), Value.int .i64 (ga cls 15), Value.int .i64 (ga cls 16), Value.int .i64 (ga cls 17), Value.int .i64 (ga cls 18), Value.int .i64 (ga cls 19), Value.int .i64 (ga cls 20), Value.int .i64 (ga cls 21), Value.int .i64 (ga cls 22), Value.int .i64 (ga cls 23), Value.int .i64 (ga cls 24)] (0 + e * 1) [Value.int .i64 v] = [Value.int .i64 (ga (cls.set e v) 0), Value.int .i64 (ga (cls.set e v) 1), Value.int .i64 (ga (cls.set e v) 2), Value.int .i64 (ga (cls.set e v) 3), Value.int .i64 (ga (cls.set e v) 4), Value.int .i64 (ga (cls.set e v) 5), Value.int .i64 (ga (cls.set e v) 6), Value.int .i64 (ga (cls.set e v) 7), Value.int .i64 (ga (cls.set e v) 8), Value.int .i64 (ga (cls.set e v) 9), Value.int .i64 (ga (cls.set e v) 10), Value.int .i64 (ga (cls.set e v) 11), Value.int .i64 (ga (cls.set e v) 12), Value.int .i64 (ga (cls.set e v) 13), Value.int .i64 (ga (cls.set e v) 14), Value.int .i64 (ga (cls.set e v) 15), Value.int .i64 (ga (cls.set e v) 16), Value.int .i64 (ga (cls.set e v) 17), Value.int .i64 (ga (cls.set e v) 18), Value.int .i64 (ga (cls.set e v) 19), Value.int .i64 (ga (cls.set e v) 20), Value.int .i64 (ga (cls.set e v) 21), Value.int .i64 (ga (cls.set e v) 22), Value.int .i64 (ga (cls.set e v) 23), Value.int .i64 (ga (cls.set e v) 24)] := by
  have h1 := spl_fn25 (fun k => Value.int .i64 (ga cls k)) (.int .i64 v) h
  have h2 : ∀ k, (if k = e then Value.int .i64 v else Value.int .i64 (ga cls k)) = Value.int .i64 (ga (cls.set e v) k) := fun k => by
    rw [ga_set _ _ _ _ (by omega)]
    by_cases e2 : k = e
    · rw [if_pos e2, if_pos e2.symm]
    · rw [if_neg e2, if_neg (fun e3 => e2 e3.symm)]
  simp only [h2] at h1
  exact h1
/-- What a table of ties holds: undone by A, by B. -/
def tdV (bit j : Nat) : Int := if bit = 0 then (j : Int) else (((j + 1) % 4 : Nat) : Int)
def tdL : List Value := [.int .i64 0, .int .i64 1, .int .i64 2, .int .i64 3, .int .i64 1, .int .i64 2, .int .i64 3, .int .i64 0]
theorem piece_td {e : Nat} (h : e < 2) : piece tdL (0 + e * 4) [.int .i64 (tdV e 0), .int .i64 (tdV e 1), .int .i64 (tdV e 2), .int .i64 (tdV e 3)] := by
  have : e = 0 ∨ e = 1 := by omega
  rcases this with rfl | rfl <;> exact ⟨rfl, rfl, rfl, rfl, trivial⟩
def TbW (N : Hp) (g : Nat) (l : List Value) : Prop := ∀ w : World, N.le (hp w) → ∀ o u, nth l o = some u → w.cell? ⟨g, o, none⟩ = some u
theorem TbW.mono {N N' : Hp} {g : Nat} {l : List Value} (h : TbW N g l) (k : N.le N') : TbW N' g l := fun w hw => h w (k.trans hw)
theorem TbW.cell {N : Hp} {w : World} {g : Nat} {l : List Value} (h : TbW N g l) (hN : N.le (hp w)) {o : Nat} {u : Value} (hu : nth l o = some u) : w.cell? ⟨g, o, none⟩ = some u := h w hN o u hu
theorem TbW.cells {N : Hp} {w : World} {g off : Nat} {l : List Value} (h : TbW N g l) (hN : N.le (hp w)) {us : List Value} (hp : piece l off us) : ∀ j u, us[j]? = some u → w.cell? ⟨g, off + j, none⟩ = some u :=
  fun j u hu => h.cell hN (piece_at hp j u hu)
theorem TbW.start {W : World} {g : Nat} {l : List Value} {T : TypeId} {q : Nat × Nat} (h : W.heap[g]? = some (.cells l.toArray T q)) : TbW (hp W) g l := fun w hw o u hu => by
  have h2 : w.heap[g]? = some (.cells l.toArray T q) := hw g _ h
  rw [cell_of_row w g o _ T q h2]
  rw [nth_eq] at hu
  simpa using hu
end Go.Proofs.YtlmcnpbkmihjkaaDoor
namespace Go.Proofs.YtlmcnpbkmihjkaaDoor
open Go.ChangeShapes Go.WideShapes Go.ChangeAt Go.RowKit
instance : Inhabited (Nat × Nat) := ⟨(0, 0)⟩
def flipN (s k : Nat) : Nat := 1 - bitN s k
theorem RootF.id_ {cls : List Int} {N : Nat} (hl : N ≤ cls.length) (h : ∀ x, x < N → ga cls x = (x : Int)) : RootF cls N (fun x => x) (fun _ => 0) := ⟨hl, fun x hx => by
 have e := h x hx
 have e2 : (ga cls x).toNat = x := by omega
 exact ⟨⟨by omega, by omega⟩, e2, fun _ => rfl, fun e3 => absurd e2 e3, hx, e2⟩⟩
theorem SameC.id_ (d : Dg) : SameC (2 * d.crs.length + 1) (fun x => x) (idW d) := ⟨by unfold idW; rw [iniW_len]; exact Nat.le_refl _, fun x y hx hy => by
 unfold idW
 rw [iniW_ga _ _ (Nat.le_refl _) x hx, iniW_ga _ _ (Nat.le_refl _) y hy]
 show x = y ↔ _
 omega⟩
theorem tie_pair (x : Cr) {b j : Nat} (hb : b < 2) (hj : j < 2) : ga (prB x (1 - b)) j = ((crArc x (if j = 0 then tdV b 0 else tdV b 2).toNat).toNat, (crArc x (if j = 0 then tdV b 1 else tdV b 3).toNat).toNat) := by
 have e1 : b = 0 ∨ b = 1 := by omega
 have e2 : j = 0 ∨ j = 1 := by omega
 rcases e1 with rfl | rfl <;> rcases e2 with rfl | rfl <;> rfl
theorem td_bd {b j : Nat} (hj : j < 2) : (0 ≤ (if j = 0 then tdV b 0 else tdV b 2) ∧ (if j = 0 then tdV b 0 else tdV b 2) < 4) ∧ (0 ≤ (if j = 0 then tdV b 1 else tdV b 3) ∧ (if j = 0 then tdV b 1 else tdV b 3) < 4) := by
 have e2 : j = 0 ∨ j = 1 := by omega
 by_cases hb : b = 0
 ·rcases e2 with rfl | rfl <;> simp [tdV, hb]
 ·rcases e2 with rfl | rfl <;> simp [tdV, hb]
theorem arc_i {w : World} {M : Hp} {X : Fr} (x : Cr) (v : Int) (hv : 0 ≤ v ∧ v < 4) (S : SH w M X []) : Cq Tryd.prog 40 [.agg [.int .i64 x.a, .int .i64 x.b, .int .i64 x.c, .int .i64 x.d, .bool x.plus].toArray, .int .i64 v] w M X (fun u => u = .int .i64 (crArc x v.toNat)) := by
 obtain ⟨k, rfl⟩ : ∃ k : Nat, v = (k : Int) := ⟨v.toNat, by omega⟩
 exact Arc_q x k (by omega) S
noncomputable def rings1_n0 : Code := Tryd.f38.body.getD .skip
noncomputable def rings1_n1 : Code := cL rings1_n0
noncomputable def rings1_n2 : Code := cR rings1_n0
noncomputable def rings1_n3 : Code := cL rings1_n2
noncomputable def rings1_n4 : Code := cR rings1_n2
noncomputable def rings1_n5 : Code := cL rings1_n3
noncomputable def rings1_n6 : Code := cL rings1_n5
noncomputable def rings1_n7 : Code := cL rings1_n6
noncomputable def rings1_n8 : Code := cR rings1_n6
noncomputable def rings1_n9 : Code := cL rings1_n7
noncomputable def rings1_n10 : Code := cR rings1_n7
noncomputable def rings1_n11 : Code := cL rings1_n10
noncomputable def rings1_n12 : Code := cR rings1_n10
noncomputable def rings1_n13 : Code := cL rings1_n8
noncomputable def rings1_n14 : Code := cL rings1_n4
noncomputable def rings1_n15 : Code := cR rings1_n4
set_option maxHeartbeats 1000000 in
set_option maxRecDepth 10000 in
theorem rings1_q {w : World} {M : Hp} {X : Fr} (a : Int) (cls : List Int) {g0 : Nat} (hcl : BxM (M.un X.h) g0 78 [.int .i64 (ga cls 0), .int .i64 (ga cls 1), .int .i64 (ga cls 2), .int .i64 (ga cls 3), .int .i64 (ga cls 4), .int .i64 (ga cls 5), .int .i64 (ga cls 6), .int .i64 (ga cls 7), .int .i64 (ga cls 8), .int .i64 (ga cls 9), .int .i64 (ga cls 10), .int .i64 (ga cls 11), .int .i64 (ga cls 12), .int .i64 (ga cls 13), .int .i64 (ga cls 14), .int .i64 (ga cls 15), .int .i64 (ga cls 16), .int .i64 (ga cls 17), .int .i64 (ga cls 18), .int .i64 (ga cls 19), .int .i64 (ga cls 20), .int .i64 (ga cls 21), .int .i64 (ga cls 22), .int .i64 (ga cls 23), .int .i64 (ga cls 24)]) (r h : Nat → Nat) (hR : RootF cls 25 r h) (ha : 0 ≤ a ∧ a.toNat < 25) (S : SH w M X []) : Cq Tryd.prog 38 [.int .i64 a, .pointer (some ⟨g0, 0, none⟩)] w M X (fun u => u = .int .i64 ((r a.toNat : Nat) : Int)) := by
 unfold Cq
 refine calls_in (b := rings1_n0) Tryd.func38 rfl Tryd.ntmps38 rfl (fun C hC => ?_)
 refine ws_sub [(0, _), (1, _)] ⟨rfl, rfl, trivial⟩ ?_
 refine ws_seqN rings1_n1 rings1_n2 rfl rfl rfl ?_
 refine ws_region rfl ?_
 refine wla 0 1 rfl rfl rfl rfl rfl rfl rfl ?_
 refine wl_end rfl ?_
 refine nm_sub [(0, _), (1, _)] ⟨rfl, rfl, trivial⟩ ?_
 refine nm_thn ?_
 refine ws_seqN rings1_n3 rings1_n4 rfl rfl rfl ?_
 refine ws_blockN rings1_n5 0 rfl rfl rfl ?_
 refine ws_loopE (fun mx_ ax_ wx_ => ∃ (z : Int), mx_ = h z.toNat ∧ Env 13 [(0, .int .i64 z), (1, .pointer (some ⟨g0, 0, none⟩))] ax_ ∧ SH wx_ M X [] ∧ (0 ≤ z ∧ z.toNat < 25) ∧ r z.toNat = r a.toNat) rfl ?_ ?_
 ·intro ax_ hax_
  refine ⟨_, ⟨a, rfl, hax_.sub ⟨rfl, rfl, trivial⟩, S.pick [] [] (by decide) trivial, ?hq1f0, ?hq1f1⟩⟩
  case hq1f0 => exact ha
  case hq1f1 => rfl
 ·rintro m1 a1 w1 ⟨z, rfl, he1, S1, hz, hrz⟩
  clear S
  refine ws_in he1 (c := rings1_n6) rfl ?_
  clear he1 a1
  obtain ⟨q1, q2, q3, q4, q5, q6⟩ := hR.2 z.toNat (by omega)
  refine ws_seqN rings1_n7 rings1_n8 rfl rfl rfl ?_
  refine ws_seqN rings1_n9 rings1_n10 rfl rfl rfl ?_
  refine ws_region rfl ?_
  refine wlm 0 1 rfl rfl rfl rfl rfl rfl rfl ?_
  refine wlo 1 2 rfl rfl rfl (wo_run rfl rfl (run_indexP (e := z.toNat) (k := 1) rfl rfl rfl Tryd.underlying78 sz3 (by first | rfl | omega) (by first | omega | (simp only [lens]; omega))) ?_)
  refine wlo 2 3 rfl rfl rfl (wo_run rfl rfl (run_load1 rfl rfl Tryd.underlying3 rfl (hcl.cell S1.um (nth_fn25 (fun k => Value.int .i64 (ga cls k)) (by first | omega | (simp only [lens]; omega))))) ?_)
  refine wlm 3 4 rfl rfl rfl rfl rfl rfl rfl ?_
  refine wlo 4 5 rfl rfl rfl (wo_run rfl rfl (run_neq rfl rfl rfl) ?_)
  refine wl_end rfl ?_
  refine nm_sub [(0, _), (1, _), (8, _)] ⟨rfl, rfl, rfl, trivial⟩ ?_
  refine nm_thn ?_
  refine ws_condN rings1_n11 rings1_n12 rfl rfl rfl rfl (fun hb8 => ?_) (fun hb8 => ?_)
  ·replace hb8 := of_decide_eq_true hb8
   have q4b := q4 (by omega)
   refine ws_skip rfl ?_
   refine nm_sub [(0, _), (1, _)] ⟨rfl, rfl, trivial⟩ ?_
   refine nm_thn ?_
   refine ws_blockN rings1_n13 1 rfl rfl rfl ?_
   refine ws_region rfl ?_
   refine wlm 0 1 rfl rfl rfl rfl rfl rfl rfl ?_
   refine wlo 1 2 rfl rfl rfl (wo_run rfl rfl (run_indexP (e := z.toNat) (k := 1) rfl rfl rfl Tryd.underlying78 sz3 (by first | rfl | omega) (by first | omega | (simp only [lens]; omega))) ?_)
   refine wlo 2 3 rfl rfl rfl (wo_run rfl rfl (run_load1 rfl rfl Tryd.underlying3 rfl (hcl.cell S1.um (nth_fn25 (fun k => Value.int .i64 (ga cls k)) (by first | omega | (simp only [lens]; omega))))) ?_)
   refine wla 3 4 rfl rfl rfl rfl rfl rfl rfl ?_
   refine wl_end rfl ?_
   refine nm_blk ?_
   refine nm_lp ?_
   intro ax_ hax_
   refine ⟨_, ?hq2m, ⟨ga cls z.toNat, rfl, hax_.sub ⟨rfl, rfl, trivial⟩, S1.pick [] [] (by decide) trivial, ?hq2f0, ?hq2f1⟩⟩
   case hq2f0 => exact q1
   case hq2f1 => exact q2.trans hrz
   case hq2m => omega
  ·replace hb8 := of_decide_eq_false hb8
   refine ws_exit rfl rfl ?_
   refine nm_sub [(0, _)] ⟨rfl, trivial⟩ ?_
   refine nm_thn ?_
   refine ws_seqN rings1_n14 rings1_n15 rfl rfl rfl ?_
   refine ws_region rfl ?_
   refine wlm 0 1 rfl rfl rfl rfl rfl rfl rfl ?_
   refine wla 1 2 rfl rfl rfl rfl rfl rfl rfl ?_
   refine wl_end rfl ?_
   refine nm_sub [(3, _)] ⟨rfl, trivial⟩ ?_
   refine nm_thn ?_
   refine ws_ret hC [_] rfl rfl ⟨rfl, trivial⟩ ?_
   exact ⟨_, rfl, (S1.pick [] [] (by decide) trivial), (congrArg (Value.int .i64) (by have := q3 (by omega); omega))⟩
noncomputable def rings_n0 : Code := Tryd.f23.body.getD .skip
noncomputable def rings_n1 : Code := cL rings_n0
noncomputable def rings_n2 : Code := cR rings_n0
noncomputable def rings_n3 : Code := cL rings_n2
noncomputable def rings_n4 : Code := cR rings_n2
noncomputable def rings_n5 : Code := cL rings_n4
noncomputable def rings_n6 : Code := cR rings_n4
noncomputable def rings_n7 : Code := cL rings_n5
noncomputable def rings_n8 : Code := cR rings_n5
noncomputable def rings_n9 : Code := cL rings_n8
noncomputable def rings_n10 : Code := cL rings_n9
noncomputable def rings_n11 : Code := cL rings_n10
noncomputable def rings_n12 : Code := cR rings_n10
noncomputable def rings_n13 : Code := cL rings_n12
noncomputable def rings_n14 : Code := cR rings_n12
noncomputable def rings_n15 : Code := cL rings_n13
noncomputable def rings_n16 : Code := cR rings_n13
noncomputable def rings_n17 : Code := cL rings_n14
noncomputable def rings_n18 : Code := cR rings_n14
noncomputable def rings_n19 : Code := cL rings_n17
noncomputable def rings_n20 : Code := cL rings_n19
noncomputable def rings_n21 : Code := cR rings_n19
noncomputable def rings_n22 : Code := cL rings_n6
noncomputable def rings_n23 : Code := cR rings_n6
noncomputable def rings_n24 : Code := cL rings_n23
noncomputable def rings_n25 : Code := cR rings_n23
noncomputable def rings_n26 : Code := cL rings_n25
noncomputable def rings_n27 : Code := cR rings_n25
noncomputable def rings_n28 : Code := cL rings_n26
noncomputable def rings_n29 : Code := cR rings_n26
noncomputable def rings_n30 : Code := cL rings_n29
noncomputable def rings_n31 : Code := cL rings_n30
noncomputable def rings_n32 : Code := cL rings_n31
noncomputable def rings_n33 : Code := cR rings_n31
noncomputable def rings_n34 : Code := cL rings_n33
noncomputable def rings_n35 : Code := cR rings_n33
noncomputable def rings_n36 : Code := cL rings_n34
noncomputable def rings_n37 : Code := cR rings_n34
noncomputable def rings_n38 : Code := cL rings_n35
noncomputable def rings_n39 : Code := cR rings_n35
noncomputable def rings_n40 : Code := cL rings_n38
noncomputable def rings_n41 : Code := cL rings_n40
noncomputable def rings_n42 : Code := cR rings_n40
noncomputable def rings_n43 : Code := cL rings_n42
noncomputable def rings_n44 : Code := cR rings_n42
noncomputable def rings_n45 : Code := cL rings_n44
noncomputable def rings_n46 : Code := cL rings_n45
noncomputable def rings_n47 : Code := cL rings_n46
noncomputable def rings_n48 : Code := cR rings_n46
noncomputable def rings_n49 : Code := cL rings_n48
noncomputable def rings_n50 : Code := cR rings_n48
noncomputable def rings_n51 : Code := cL rings_n49
noncomputable def rings_n52 : Code := cR rings_n49
noncomputable def rings_n53 : Code := cL rings_n50
noncomputable def rings_n54 : Code := cR rings_n50
noncomputable def rings_n55 : Code := cL rings_n53
noncomputable def rings_n56 : Code := cL rings_n55
noncomputable def rings_n57 : Code := cR rings_n55
noncomputable def rings_n58 : Code := cL rings_n57
noncomputable def rings_n59 : Code := cR rings_n57
noncomputable def rings_n60 : Code := cL rings_n59
noncomputable def rings_n61 : Code := cR rings_n59
noncomputable def rings_n62 : Code := cL rings_n61
noncomputable def rings_n63 : Code := cR rings_n61
noncomputable def rings_n64 : Code := cL rings_n62
noncomputable def rings_n65 : Code := cR rings_n62
noncomputable def rings_n66 : Code := cL rings_n27
noncomputable def rings_n67 : Code := cR rings_n27
set_option maxHeartbeats 4000000 in
set_option maxRecDepth 10000 in
theorem rings_q {w : World} {M : Hp} {X : Fr} (d : Dg) {gsh : Nat} {cA iA oA : Option Addr} {cc ic oc : Nat} (m : Nat) (hsb : BxM (M.un X.h) gsh 53 [.slice cA d.crs.length cc, .int .i64 d.loops, .slice iA (tabL d false (4 * d.crs.length)).length ic, .slice oA (tabL d true (4 * d.crs.length)).length oc]) (hsc : RdA cdCr (M.un X.h) cA cc d.crs) (hsi : RdA cdPl (M.un X.h) iA ic (tabL d false (4 * d.crs.length))) (hso : RdA cdPl (M.un X.h) oA oc (tabL d true (4 * d.crs.length))) (hn : d.crs.length ≤ 12) (hab : arcsB d = true) (hlo : 0 ≤ d.loops ∧ d.loops ≤ 16) (htd : TbW (M.un X.h) 0 tdL) (S : SH w M X []) : Cq Tryd.prog 23 [.pointer (some ⟨gsh, 0, none⟩), .int .i64 (m : Int)] w M X (fun u => u = .int .i64 (rngF d (flipN m))) := by
 unfold Cq
 refine calls_in (b := rings_n0) Tryd.func23 rfl Tryd.ntmps23 rfl (fun C hC => ?_)
 refine ws_sub [(0, _), (1, _)] ⟨rfl, rfl, trivial⟩ ?_
 refine ws_seqN rings_n1 rings_n2 rfl rfl rfl ?_
 refine ws_region rfl ?_
 refine wla 0 1 rfl rfl rfl rfl rfl rfl rfl ?_
 refine wl_end rfl ?_
 refine nm_sub [(0, _), (1, _)] ⟨rfl, rfl, trivial⟩ ?_
 refine nm_thn ?_
 refine ws_seqN rings_n3 rings_n4 rfl rfl rfl ?_
 refine ws_region rfl ?_
 refine wlo 0 1 rfl rfl rfl (wo_alloc (l := [_, _, _, _, _, _, _, _, _, _, _, _, _, _, _, _, _, _, _, _, _, _, _, _, _]) rfl rfl rfl zr78 rfl S ?_)
 intro gb1 w1 S1; clear S
 refine wl_end rfl ?_
 refine nm_thn ?_
 refine ws_seqN rings_n5 rings_n6 rfl rfl rfl ?_
 refine ws_seqN rings_n7 rings_n8 rfl rfl rfl ?_
 refine ws_region rfl ?_
 refine wlm 0 1 rfl rfl rfl rfl rfl rfl rfl ?_
 refine wl_end rfl ?_
 refine nm_thn ?_
 refine ws_blockN rings_n9 0 rfl rfl rfl ?_
 refine ws_loopE (fun mx_ ax_ wx_ => ∃ (a : Nat) (c9 : List Int), mx_ = 25 - a ∧ Env 74 [(0, .pointer (some ⟨gsh, 0, none⟩)), (1, .int .i64 (m : Int)), (5, .pointer (some ⟨gb1, 0, none⟩)), (15, .int .i64 (a : Int))] ax_ ∧ SH wx_ M X [Rs.box gb1 78 [.int .i64 (ga c9 0), .int .i64 (ga c9 1), .int .i64 (ga c9 2), .int .i64 (ga c9 3), .int .i64 (ga c9 4), .int .i64 (ga c9 5), .int .i64 (ga c9 6), .int .i64 (ga c9 7), .int .i64 (ga c9 8), .int .i64 (ga c9 9), .int .i64 (ga c9 10), .int .i64 (ga c9 11), .int .i64 (ga c9 12), .int .i64 (ga c9 13), .int .i64 (ga c9 14), .int .i64 (ga c9 15), .int .i64 (ga c9 16), .int .i64 (ga c9 17), .int .i64 (ga c9 18), .int .i64 (ga c9 19), .int .i64 (ga c9 20), .int .i64 (ga c9 21), .int .i64 (ga c9 22), .int .i64 (ga c9 23), .int .i64 (ga c9 24)]] ∧ a ≤ 25 ∧ c9.length = 25 ∧ (∀ x, x < a → ga c9 x = (x : Int))) rfl ?_ ?_
 ·intro ax_ hax_
  refine ⟨_, ⟨0, (List.replicate 25 (0 : Int)), rfl, hax_.sub ⟨rfl, rfl, rfl, rfl, trivial⟩, S1.pick [0] [_] (by decide) ⟨rfl, trivial⟩, ?hq1f0, ?hq1f1, ?hq1f2⟩⟩
  case hq1f0 => omega
  case hq1f1 => rfl
  case hq1f2 => (intro x hx; omega)
 ·rintro m1 a1 w2 ⟨a, c9, rfl, he1, S2, ha, hcl9, hc9⟩
  clear S1
  refine ws_in he1 (c := rings_n10) rfl ?_
  clear he1 a1
  refine ws_seqN rings_n11 rings_n12 rfl rfl rfl ?_
  refine ws_region rfl ?_
  refine wlo 0 1 rfl rfl rfl (wo_run rfl rfl (run_lss rfl rfl rfl) ?_)
  refine wl_end rfl ?_
  refine nm_thn ?_
  refine ws_seqN rings_n13 rings_n14 rfl rfl rfl ?_
  refine ws_condN rings_n15 rings_n16 rfl rfl rfl rfl (fun hb16 => ?_) (fun hb16 => ?_)
  ·replace hb16 := of_decide_eq_true hb16
   refine ws_skip rfl ?_
   refine nm_sub [(0, _), (1, _), (5, _), (15, _)] ⟨rfl, rfl, rfl, rfl, trivial⟩ ?_
   refine nm_thn ?_
   refine ws_seqN rings_n17 rings_n18 rfl rfl rfl ?_
   refine ws_blockN rings_n19 1 rfl rfl rfl ?_
   refine ws_seqN rings_n20 rings_n21 rfl rfl rfl ?_
   refine ws_region rfl ?_
   refine wlm 0 1 rfl rfl rfl rfl rfl rfl rfl ?_
   refine wla 1 2 rfl rfl rfl rfl rfl rfl rfl ?_
   refine wl_end rfl ?_
   refine nm_sub [(0, _), (1, _), (5, _), (15, _), (6, _)] ⟨rfl, rfl, rfl, rfl, rfl, trivial⟩ ?_
   refine nm_thn ?_
   refine ws_region rfl ?_
   refine wlm 0 1 rfl rfl rfl rfl rfl rfl rfl ?_
   refine wlm 1 2 rfl rfl rfl rfl rfl rfl rfl ?_
   refine wlo 2 3 rfl rfl rfl (wo_run rfl rfl (run_indexP (e := a) (k := 1) rfl rfl rfl Tryd.underlying78 sz3 (by first | rfl | omega) (by first | omega | (simp only [lens]; omega))) ?_)
   refine wlo 3 4 rfl rfl rfl (wo_storeB (i := 0) (us := [_]) (l' := [.int .i64 (ga (c9.set a (a : Int)) 0), .int .i64 (ga (c9.set a (a : Int)) 1), .int .i64 (ga (c9.set a (a : Int)) 2), .int .i64 (ga (c9.set a (a : Int)) 3), .int .i64 (ga (c9.set a (a : Int)) 4), .int .i64 (ga (c9.set a (a : Int)) 5), .int .i64 (ga (c9.set a (a : Int)) 6), .int .i64 (ga (c9.set a (a : Int)) 7), .int .i64 (ga (c9.set a (a : Int)) 8), .int .i64 (ga (c9.set a (a : Int)) 9), .int .i64 (ga (c9.set a (a : Int)) 10), .int .i64 (ga (c9.set a (a : Int)) 11), .int .i64 (ga (c9.set a (a : Int)) 12), .int .i64 (ga (c9.set a (a : Int)) 13), .int .i64 (ga (c9.set a (a : Int)) 14), .int .i64 (ga (c9.set a (a : Int)) 15), .int .i64 (ga (c9.set a (a : Int)) 16), .int .i64 (ga (c9.set a (a : Int)) 17), .int .i64 (ga (c9.set a (a : Int)) 18), .int .i64 (ga (c9.set a (a : Int)) 19), .int .i64 (ga (c9.set a (a : Int)) 20), .int .i64 (ga (c9.set a (a : Int)) 21), .int .i64 (ga (c9.set a (a : Int)) 22), .int .i64 (ga (c9.set a (a : Int)) 23), .int .i64 (ga (c9.set a (a : Int)) 24)]) (H' := [_]) rfl rfl S2 rfl rfl rfl rfl sz3 (ble_fn25 (fun k => Value.int .i64 (ga c9 k)) _ (by first | omega | (simp only [lens]; omega))) rfl (spl_g25 c9 (a : Int) (by first | omega | (simp only [lens]; omega)) (by first | assumption | omega)) rfl ?_)
   intro w3 S3; clear S2
   refine wl_end rfl ?_
   refine nm_blk ?_
   refine nm_sub [(0, _), (1, _), (5, _), (15, _)] ⟨rfl, rfl, rfl, rfl, trivial⟩ ?_
   refine nm_thn ?_
   refine ws_region rfl ?_
   refine wlo 0 1 rfl rfl rfl (wo_run rfl rfl (run_add rfl rfl rfl (by first | omega | (simp only [lens]; omega))) ?_)
   refine wlm 1 2 rfl rfl rfl rfl rfl rfl rfl ?_
   refine wl_end rfl ?_
   refine nm_lp ?_
   intro ax_ hax_
   refine ⟨_, ?hq2m, ⟨a + 1, (c9.set a (a : Int)), rfl, hax_.sub ⟨rfl, rfl, rfl, rfl, trivial⟩, S3.pick [0] [_] (by decide) ⟨rfl, trivial⟩, ?hq2f0, ?hq2f1, ?hq2f2⟩⟩
   case hq2f0 => omega
   case hq2f1 => (rw [List.length_set]; exact hcl9)
   case hq2f2 => (intro x hx; rw [ga_set _ _ _ _ (by omega)]; by_cases e : a = x; (rw [if_pos e]; omega); (rw [if_neg e]; exact hc9 x (by omega)))
   case hq2m => omega
  ·replace hb16 := of_decide_eq_false hb16
   refine ws_exit rfl rfl ?_
   refine nm_sub [(0, _), (1, _), (5, _)] ⟨rfl, rfl, rfl, trivial⟩ ?_
   refine nm_thn ?_
   refine ws_seqN rings_n22 rings_n23 rfl rfl rfl ?_
   refine ws_region rfl ?_
   refine wlo 0 1 rfl rfl rfl (wo_run rfl rfl (run_makeFunc (vs := [_]) rfl rfl rfl rfl) ?_)
   refine wla 1 2 rfl rfl rfl rfl rfl rfl rfl ?_
   refine wl_end rfl ?_
   refine nm_sub [(0, _), (1, _), (5, _), (7, _)] ⟨rfl, rfl, rfl, rfl, trivial⟩ ?_
   refine nm_thn ?_
   refine ws_seqN rings_n24 rings_n25 rfl rfl rfl ?_
   refine ws_region rfl ?_
   refine wlm 0 1 rfl rfl rfl rfl rfl rfl rfl ?_
   refine wlo 1 2 rfl rfl rfl (wo_cq rfl rfl rfl rfl rfl rfl rfl cf39 S2 (Arcs_q d  (hsb.mono S2.un_XH) (hsc.mono S2.un_XH) (hsi.mono S2.un_XH) (hso.mono S2.un_XH) (by omega) S2.lend) ?_)
   rintro _ w4 S4 rfl; clear S2
   refine wla 2 3 rfl rfl rfl rfl rfl rfl rfl ?_
   refine wl_end rfl ?_
   refine nm_sub [(0, _), (1, _), (5, _), (7, _), (8, _)] ⟨rfl, rfl, rfl, rfl, rfl, trivial⟩ ?_
   refine nm_thn ?_
   refine ws_seqN rings_n26 rings_n27 rfl rfl rfl ?_
   refine ws_seqN rings_n28 rings_n29 rfl rfl rfl ?_
   refine ws_region rfl ?_
   refine wlm 0 1 rfl rfl rfl rfl rfl rfl rfl ?_
   refine wlo 1 2 rfl rfl rfl (wo_run rfl rfl (run_nilCheck rfl rfl) ?_)
   refine wlo 2 3 rfl rfl rfl (wo_run rfl rfl (run_fieldAddr rfl rfl Tryd.underlying53 rfl (ce24) (nf24)) ?_)
   refine wlo 3 4 rfl rfl rfl (wo_run rfl rfl (run_fieldAddr rfl rfl Tryd.underlying24 rfl (ce22) (nf22)) ?_)
   refine wlo 4 5 rfl rfl rfl (wo_run rfl rfl (run_load1 rfl rfl Tryd.underlying22 rfl (hsb.cell S4.um rfl)) ?_)
   refine wlo 5 6 rfl rfl rfl (wo_run rfl rfl (run_len rfl rfl rfl rfl rfl rfl Tryd.underlying22) ?_)
   refine wlm 6 7 rfl rfl rfl rfl rfl rfl rfl ?_
   refine wl_end rfl ?_
   refine nm_sub [(0, _), (1, _), (5, _), (7, _), (8, _), (29, _), (30, _), (31, _)] ⟨rfl, rfl, rfl, rfl, rfl, rfl, rfl, rfl, trivial⟩ ?_
   refine nm_thn ?_
   refine ws_blockN rings_n30 2 rfl rfl rfl ?_
   refine ws_loopE (fun mx_ ax_ wx_ => ∃ (k : Nat) (c8 : List Int) (nn : Int) (r : Nat → Nat) (h : Nat → Nat), mx_ = d.crs.length - k ∧ Env 74 [(0, .pointer (some ⟨gsh, 0, none⟩)), (1, .int .i64 (m : Int)), (5, .pointer (some ⟨gb1, 0, none⟩)), (7, .func (.func 38) #[] [.pointer (some ⟨gb1, 0, none⟩)].toArray), (8, .int .i64 nn), (29, .slice cA d.crs.length cc), (30, .int .i64 (d.crs.length : Int)), (31, .int .i64 (k : Int))] ax_ ∧ SH wx_ M X [Rs.box gb1 78 [.int .i64 (ga c8 0), .int .i64 (ga c8 1), .int .i64 (ga c8 2), .int .i64 (ga c8 3), .int .i64 (ga c8 4), .int .i64 (ga c8 5), .int .i64 (ga c8 6), .int .i64 (ga c8 7), .int .i64 (ga c8 8), .int .i64 (ga c8 9), .int .i64 (ga c8 10), .int .i64 (ga c8 11), .int .i64 (ga c8 12), .int .i64 (ga c8 13), .int .i64 (ga c8 14), .int .i64 (ga c8 15), .int .i64 (ga c8 16), .int .i64 (ga c8 17), .int .i64 (ga c8 18), .int .i64 (ga c8 19), .int .i64 (ga c8 20), .int .i64 (ga c8 21), .int .i64 (ga c8 22), .int .i64 (ga c8 23), .int .i64 (ga c8 24)]] ∧ k ≤ d.crs.length ∧ c8.length = 25 ∧ RootF c8 25 r h ∧ SameC (2 * d.crs.length + 1) r (rnW (prsF d (flipN m) k) (idW d)) ∧ nn = 2 * (d.crs.length : Int) - ((cmF d (flipN m) k : Nat) : Int)) rfl ?_ ?_
   ·intro ax_ hax_
    refine ⟨_, ⟨0, c9, _, (fun x => x), (fun _ => 0), rfl, hax_.sub ⟨rfl, rfl, rfl, rfl, rfl, rfl, rfl, rfl, trivial⟩, S4.pick [0] [_] (by decide) ⟨rfl, trivial⟩, ?hq3f0, ?hq3f1, ?hq3f2, ?hq3f3, ?hq3f4⟩⟩
    case hq3f0 => omega
    case hq3f1 => exact hcl9
    case hq3f2 => exact RootF.id_ (by omega) (fun x hx => hc9 x (by omega))
    case hq3f3 => exact SameC.id_ d
    case hq3f4 => (show _ = _ - (0 : Int); omega)
   ·rintro m2 a2 w5 ⟨k, c8, nn, r, h, rfl, he2, S5, hk, hc8, hR, hS, hnn⟩
    clear S4
    refine ws_in he2 (c := rings_n31) rfl ?_
    clear he2 a2
    have hcm := cmF_le d (flipN m) k
    refine ws_seqN rings_n32 rings_n33 rfl rfl rfl ?_
    refine ws_region rfl ?_
    refine wlo 0 1 rfl rfl rfl (wo_run rfl rfl (run_lss rfl rfl rfl) ?_)
    refine wl_end rfl ?_
    refine nm_thn ?_
    refine ws_seqN rings_n34 rings_n35 rfl rfl rfl ?_
    refine ws_condN rings_n36 rings_n37 rfl rfl rfl rfl (fun hb32 => ?_) (fun hb32 => ?_)
    ·replace hb32 := of_decide_eq_true hb32
     refine ws_skip rfl ?_
     refine nm_sub [(0, _), (1, _), (5, _), (7, _), (8, _), (29, _), (30, _), (31, _)] ⟨rfl, rfl, rfl, rfl, rfl, rfl, rfl, rfl, trivial⟩ ?_
     refine nm_thn ?_
     refine ws_seqN rings_n38 rings_n39 rfl rfl rfl ?_
     refine ws_blockN rings_n40 3 rfl rfl rfl ?_
     refine ws_seqN rings_n41 rings_n42 rfl rfl rfl ?_
     refine ws_region rfl ?_
     refine wlm 0 1 rfl rfl rfl rfl rfl rfl rfl ?_
     refine wlo 1 2 rfl rfl rfl (wo_run rfl rfl (run_indexM (C := cdCr) k rfl rfl rfl sl22 (by first | rfl | omega) hsc (by first | omega | (simp only [lens]; omega))) ?_)
     refine wlo 2 3 rfl rfl rfl (wo_run rfl rfl (run_loadN (us := [_, _, _, _, _]) rfl rfl Tryd.underlying67 rfl sz67 (hsc.cellsAt S5.um (e := k) (by first | omega | (simp only [lens]; omega)) (j := 0) ⟨rfl, rfl, rfl, rfl, rfl, trivial⟩)) ?_)
     refine wlo 3 4 rfl rfl rfl (wo_alloc (l := [_, _, _, _, _]) rfl rfl rfl zr67 rfl S5 ?_)
     intro gb2 w6 S6; clear S5
     refine wla 4 5 rfl rfl rfl rfl rfl rfl rfl ?_
     refine wlo 5 6 rfl rfl rfl (wo_storeB (i := 0) (us := [_, _, _, _, _]) (l' := [_, _, _, _, _]) (H' := [_, _]) rfl rfl S6 rfl rfl rfl rfl sz67 rfl rfl rfl rfl ?_)
     intro w7 S7; clear S6
     refine wl_end rfl ?_
     refine nm_sub [(0, _), (1, _), (5, _), (7, _), (8, _), (29, _), (30, _), (31, _), (10, _), (9, _)] ⟨rfl, rfl, rfl, rfl, rfl, rfl, rfl, rfl, rfl, rfl, trivial⟩ ?_
     refine nm_thn ?_
     refine ws_seqN rings_n43 rings_n44 rfl rfl rfl ?_
     refine ws_region rfl ?_
     refine wlm 0 1 rfl rfl rfl rfl rfl rfl rfl ?_
     refine wlm 1 2 rfl rfl rfl rfl rfl rfl rfl ?_
     refine wlo 2 3 rfl rfl rfl (wo_run rfl rfl (run_shrN (s := m) (n := k) rfl rfl rfl (by first | omega | (simp only [lens]; omega))) ?_)
     refine wlo 3 4 rfl rfl rfl (wo_run rfl rfl (run_and1N (s := (m / 2 ^ k)) rfl rfl rfl) ?_)
     refine wlo 4 5 rfl rfl rfl (wo_run rfl rfl (run_indexP (e := (m / 2 ^ k) % 2) (k := 4) rfl rfl rfl Tryd.underlying83 sz82 (by first | rfl | omega) (by first | omega | (simp only [lens]; omega))) ?_)
     refine wlo 5 6 rfl rfl rfl (wo_run rfl rfl (run_loadN (us := [_, _, _, _]) rfl rfl Tryd.underlying82 rfl sz82 (htd.cells S7.um (piece_td (by first | omega | (simp only [lens]; omega))))) ?_)
     refine wlm 6 7 rfl rfl rfl rfl rfl rfl rfl ?_
     refine wl_end rfl ?_
     refine nm_sub [(0, _), (1, _), (5, _), (7, _), (8, _), (29, _), (30, _), (31, _), (10, _), (41, _), (42, _)] ⟨rfl, rfl, rfl, rfl, rfl, rfl, rfl, rfl, rfl, rfl, rfl, trivial⟩ ?_
     refine nm_thn ?_
     refine ws_blockN rings_n45 4 rfl rfl rfl ?_
     refine ws_loopE (fun mx_ ax_ wx_ => ∃ (j : Nat) (c7 : List Int) (n2 : Int) (r2 : Nat → Nat) (h2 : Nat → Nat), mx_ = 2 - j ∧ Env 74 [(0, .pointer (some ⟨gsh, 0, none⟩)), (1, .int .i64 (m : Int)), (5, .pointer (some ⟨gb1, 0, none⟩)), (7, .func (.func 38) #[] [.pointer (some ⟨gb1, 0, none⟩)].toArray), (8, .int .i64 n2), (29, .slice cA d.crs.length cc), (30, .int .i64 (d.crs.length : Int)), (31, .int .i64 (k : Int)), (10, .pointer (some ⟨gb2, 0, none⟩)), (41, .agg [.int .i64 (tdV ((m / 2 ^ k) % 2) 0), .int .i64 (tdV ((m / 2 ^ k) % 2) 1), .int .i64 (tdV ((m / 2 ^ k) % 2) 2), .int .i64 (tdV ((m / 2 ^ k) % 2) 3)].toArray), (42, .int .i64 (j : Int))] ax_ ∧ SH wx_ M X [Rs.box gb2 67 [.int .i64 ((ga d.crs k).a), .int .i64 ((ga d.crs k).b), .int .i64 ((ga d.crs k).c), .int .i64 ((ga d.crs k).d), .bool ((ga d.crs k).plus)], Rs.box gb1 78 [.int .i64 (ga c7 0), .int .i64 (ga c7 1), .int .i64 (ga c7 2), .int .i64 (ga c7 3), .int .i64 (ga c7 4), .int .i64 (ga c7 5), .int .i64 (ga c7 6), .int .i64 (ga c7 7), .int .i64 (ga c7 8), .int .i64 (ga c7 9), .int .i64 (ga c7 10), .int .i64 (ga c7 11), .int .i64 (ga c7 12), .int .i64 (ga c7 13), .int .i64 (ga c7 14), .int .i64 (ga c7 15), .int .i64 (ga c7 16), .int .i64 (ga c7 17), .int .i64 (ga c7 18), .int .i64 (ga c7 19), .int .i64 (ga c7 20), .int .i64 (ga c7 21), .int .i64 (ga c7 22), .int .i64 (ga c7 23), .int .i64 (ga c7 24)]] ∧ j ≤ 2 ∧ c7.length = 25 ∧ RootF c7 25 r2 h2 ∧ SameC (2 * d.crs.length + 1) r2 (rnW (prsF d (flipN m) k ++ (prB (ga d.crs k) ((flipN m) k)).take j) (idW d)) ∧ n2 = 2 * (d.crs.length : Int) - ((rnC (prsF d (flipN m) k ++ (prB (ga d.crs k) ((flipN m) k)).take j) (idW d) : Nat) : Int)) rfl ?_ ?_
     ·intro ax_ hax_
      refine ⟨_, ⟨0, c8, _, r, h, rfl, hax_.sub ⟨rfl, rfl, rfl, rfl, rfl, rfl, rfl, rfl, rfl, rfl, rfl, trivial⟩, S7.pick [0, 1] [_, _] (by decide) ⟨rfl, rfl, trivial⟩, ?hq4f0, ?hq4f1, ?hq4f2, ?hq4f3, ?hq4f4⟩⟩
      case hq4f0 => omega
      case hq4f1 => exact hc8
      case hq4f2 => exact hR
      case hq4f3 => (rw [List.take_zero, List.append_nil]; exact hS)
      case hq4f4 => (rw [List.take_zero, List.append_nil]; exact hnn)
     ·rintro m3 a3 w8 ⟨j, c7, n2, r2, h2, rfl, he3, S8, hj, hc7, hR2, hS2, hn2⟩
      clear S7
      refine ws_in he3 (c := rings_n46) rfl ?_
      clear he3 a3
      have hrc := rnC_le (prsF d (flipN m) k ++ (prB (ga d.crs k) ((flipN m) k)).take j) (idW d)
      rw [List.length_append, prsF_len, List.length_take, prB_len] at hrc
      refine ws_seqN rings_n47 rings_n48 rfl rfl rfl ?_
      refine ws_region rfl ?_
      refine wlo 0 1 rfl rfl rfl (wo_run rfl rfl (run_lss rfl rfl rfl) ?_)
      refine wl_end rfl ?_
      refine nm_thn ?_
      refine ws_seqN rings_n49 rings_n50 rfl rfl rfl ?_
      refine ws_condN rings_n51 rings_n52 rfl rfl rfl rfl (fun hb43 => ?_) (fun hb43 => ?_)
      ·replace hb43 := of_decide_eq_true hb43
       refine ws_skip rfl ?_
       refine nm_sub [(0, _), (1, _), (5, _), (7, _), (8, _), (29, _), (30, _), (31, _), (10, _), (41, _), (42, _)] ⟨rfl, rfl, rfl, rfl, rfl, rfl, rfl, rfl, rfl, rfl, rfl, trivial⟩ ?_
       refine nm_thn ?_
       refine ws_seqN rings_n53 rings_n54 rfl rfl rfl ?_
       refine ws_blockN rings_n55 5 rfl rfl rfl ?_
       refine ws_seqN rings_n56 rings_n57 rfl rfl rfl ?_
       refine ws_region rfl ?_
       refine wlo 0 1 rfl rfl rfl (wo_run rfl rfl (run_indexA2 (e := j) rfl rfl rfl Tryd.underlying82 Tryd.underlying81 rfl sz81 (by first | rfl | omega) (by first | omega | (simp only [lens]; omega))) ?_)
       refine wl_eq 44 (.agg [.int .i64 (if j = 0 then tdV (m / 2 ^ k % 2) 0 else tdV (m / 2 ^ k % 2) 2), .int .i64 (if j = 0 then tdV (m / 2 ^ k % 2) 1 else tdV (m / 2 ^ k % 2) 3)].toArray) rfl (by by_cases e9 : j = 0 <;> simp [e9]) ?_
       refine wlo 1 2 rfl rfl rfl (wo_alloc (l := [_, _]) rfl rfl rfl zr81 rfl S8 ?_)
       intro gb3 w9 S9; clear S8
       refine wlo 2 3 rfl rfl rfl (wo_storeB (i := 0) (us := [_, _]) (l' := [_, _]) (H' := [_, _, _]) rfl rfl S9 rfl rfl rfl rfl sz81 rfl rfl rfl rfl ?_)
       intro w10 S10; clear S9
       refine wl_end rfl ?_
       refine nm_sub [(0, _), (1, _), (5, _), (7, _), (8, _), (29, _), (30, _), (31, _), (10, _), (41, _), (42, _), (12, _)] ⟨rfl, rfl, rfl, rfl, rfl, rfl, rfl, rfl, rfl, rfl, rfl, rfl, trivial⟩ ?_
       refine nm_thn ?_
       refine ws_seqN rings_n58 rings_n59 rfl rfl rfl ?_
       obtain ⟨htb1, htb2⟩ := td_bd (b := m / 2 ^ k % 2) (show j < 2 by omega)
       have hbA := arcAt_bd hab (i := k) (show k < d.crs.length by omega) (k := (if j = 0 then tdV (m / 2 ^ k % 2) 0 else tdV (m / 2 ^ k % 2) 2).toNat) (by omega)
       have hbB := arcAt_bd hab (i := k) (show k < d.crs.length by omega) (k := (if j = 0 then tdV (m / 2 ^ k % 2) 1 else tdV (m / 2 ^ k % 2) 3).toNat) (by omega)
       replace hbA : 1 ≤ crArc (ga d.crs k) (if j = 0 then tdV (m / 2 ^ k % 2) 0 else tdV (m / 2 ^ k % 2) 2).toNat ∧ crArc (ga d.crs k) (if j = 0 then tdV (m / 2 ^ k % 2) 0 else tdV (m / 2 ^ k % 2) 2).toNat ≤ 2 * (d.crs.length : Int) := hbA
       replace hbB : 1 ≤ crArc (ga d.crs k) (if j = 0 then tdV (m / 2 ^ k % 2) 1 else tdV (m / 2 ^ k % 2) 3).toNat ∧ crArc (ga d.crs k) (if j = 0 then tdV (m / 2 ^ k % 2) 1 else tdV (m / 2 ^ k % 2) 3).toNat ≤ 2 * (d.crs.length : Int) := hbB
       have hps9 : prsF d (flipN m) k ++ (prB (ga d.crs k) ((flipN m) k)).take (j + 1) = (prsF d (flipN m) k ++ (prB (ga d.crs k) ((flipN m) k)).take j) ++ [((crArc (ga d.crs k) (if j = 0 then tdV (m / 2 ^ k % 2) 0 else tdV (m / 2 ^ k % 2) 2).toNat).toNat, (crArc (ga d.crs k) (if j = 0 then tdV (m / 2 ^ k % 2) 1 else tdV (m / 2 ^ k % 2) 3).toNat).toNat)] := by rw [take_ga _ _ (by rw [prB_len]; omega), ← List.append_assoc]; exact congrArg (fun z => _ ++ [z]) (tie_pair (ga d.crs k) (b := m / 2 ^ k % 2) (by omega) (by omega))
       obtain ⟨_, _, _, _, hra, _⟩ := hR2.2 (crArc (ga d.crs k) (if j = 0 then tdV (m / 2 ^ k % 2) 0 else tdV (m / 2 ^ k % 2) 2).toNat).toNat (by omega)
       obtain ⟨_, _, _, _, hrb, _⟩ := hR2.2 (crArc (ga d.crs k) (if j = 0 then tdV (m / 2 ^ k % 2) 1 else tdV (m / 2 ^ k % 2) 3).toNat).toNat (by omega)
       refine ws_draw rfl (by kernel_rfl) S10 14 rfl ?_
       clear S10
       refine wa_takeP (i := 0) (d := 45) 13 rfl (by kernel_rfl) (by kernel_rfl) (by kernel_rfl) rfl rfl rfl (fun w11 => run_move rfl rfl) ?_
       refine wa_take (i := 1) (d := 46) 12 rfl (by kernel_rfl) (by kernel_rfl) (by kernel_rfl) rfl rfl rfl (fun M2 N2 w12 hle5 S12 => .inl (run_loadN (us := [_, _, _, _, _]) rfl rfl Tryd.underlying67 rfl sz67 (S12.suf.boxcs (i := 1) rfl ⟨rfl, rfl, rfl, rfl, rfl, trivial⟩))) ?_
       refine wa_take (i := 2) (d := 47) 11 rfl (by kernel_rfl) (by kernel_rfl) (by kernel_rfl) rfl rfl rfl (fun M3 N3 w13 hle6 S13 => .inl (run_indexP (e := 0) (k := 1) rfl rfl rfl Tryd.underlying81 sz3 (by first | rfl | omega) (by first | omega | (simp only [lens]; omega)))) ?_
       refine wa_take (i := 3) (d := 48) 10 rfl (by kernel_rfl) (by kernel_rfl) (by kernel_rfl) rfl rfl rfl (fun M4 N4 w14 hle7 S14 => .inl (run_load1 rfl rfl Tryd.underlying3 rfl (S14.suf.boxc (i := 0) rfl rfl))) ?_
       refine wa_take (i := 4) (d := 49) 9 rfl (by kernel_rfl) (by kernel_rfl) (by kernel_rfl) rfl rfl rfl (fun M5 N5 w15 hle8 S15 => yield_cq rfl rfl rfl rfl rfl cf40 S15 (arc_i (ga d.crs k) (if j = 0 then tdV (m / 2 ^ k % 2) 0 else tdV (m / 2 ^ k % 2) 2) ((by omega)) S15.lend)) ?_
       refine wa_take (i := 5) (d := 50) 8 rfl (by kernel_rfl) (by kernel_rfl) (by kernel_rfl) rfl rfl rfl (fun M6 N6 w16 hle9 S16 => yield_cqF rfl rfl rfl rfl rfl cf38 S16 (rings1_q (crArc (ga d.crs k) (if j = 0 then tdV (m / 2 ^ k % 2) 0 else tdV (m / 2 ^ k % 2) 2).toNat) c7 (SH.boxMs (i := 2) S16 rfl) r2 h2 hR2 (by omega) S16.lend)) ?_
       refine wa_takeP (i := 6) (d := 51) 7 rfl (by kernel_rfl) (by kernel_rfl) (by kernel_rfl) rfl rfl rfl (fun w17 => run_move rfl rfl) ?_
       refine wa_take (i := 7) (d := 52) 6 rfl (by kernel_rfl) (by kernel_rfl) (by kernel_rfl) rfl rfl rfl (fun M8 N8 w18 hle11 S18 => .inl (run_loadN (us := [_, _, _, _, _]) rfl rfl Tryd.underlying67 rfl sz67 (S18.suf.boxcs (i := 1) rfl ⟨rfl, rfl, rfl, rfl, rfl, trivial⟩))) ?_
       refine wa_take (i := 8) (d := 53) 5 rfl (by kernel_rfl) (by kernel_rfl) (by kernel_rfl) rfl rfl rfl (fun M9 N9 w19 hle12 S19 => .inl (run_indexP (e := 1) (k := 1) rfl rfl rfl Tryd.underlying81 sz3 (by first | rfl | omega) (by first | omega | (simp only [lens]; omega)))) ?_
       refine wa_take (i := 9) (d := 54) 4 rfl (by kernel_rfl) (by kernel_rfl) (by kernel_rfl) rfl rfl rfl (fun M10 N10 w20 hle13 S20 => .inl (run_load1 rfl rfl Tryd.underlying3 rfl (S20.suf.boxc (i := 0) rfl rfl))) ?_
       refine wa_take (i := 10) (d := 55) 3 rfl (by kernel_rfl) (by kernel_rfl) (by kernel_rfl) rfl rfl rfl (fun M11 N11 w21 hle14 S21 => yield_cq rfl rfl rfl rfl rfl cf40 S21 (arc_i (ga d.crs k) (if j = 0 then tdV (m / 2 ^ k % 2) 1 else tdV (m / 2 ^ k % 2) 3) ((by omega)) S21.lend)) ?_
       refine wa_take (i := 11) (d := 56) 2 rfl (by kernel_rfl) (by kernel_rfl) (by kernel_rfl) rfl rfl rfl (fun M12 N12 w22 hle15 S22 => yield_cqF rfl rfl rfl rfl rfl cf38 S22 (rings1_q (crArc (ga d.crs k) (if j = 0 then tdV (m / 2 ^ k % 2) 1 else tdV (m / 2 ^ k % 2) 3).toNat) c7 (SH.boxMs (i := 2) S22 rfl) r2 h2 hR2 (by omega) S22.lend)) ?_
       refine wa_takeP (i := 12) (d := 13) 1 rfl (by kernel_rfl) (by kernel_rfl) (by kernel_rfl) rfl rfl rfl (fun w23 => run_assign rfl rfl) ?_
       refine wa_takeP (i := 13) (d := 14) 0 rfl (by kernel_rfl) (by kernel_rfl) (by kernel_rfl) rfl rfl rfl (fun w24 => run_assign rfl rfl) ?_
       refine wa_end (by kernel_rfl) (fun w25 S25 => ?_)
       refine nm_sub [(0, _), (1, _), (5, _), (7, _), (8, _), (29, _), (30, _), (31, _), (10, _), (41, _), (42, _), (13, _), (14, _)] ⟨rfl, rfl, rfl, rfl, rfl, rfl, rfl, rfl, rfl, rfl, rfl, rfl, rfl, trivial⟩ ?_
       refine nm_thn ?_
       refine ws_seqN rings_n60 rings_n61 rfl rfl rfl ?_
       refine ws_region rfl ?_
       refine wlm 0 1 rfl rfl rfl rfl rfl rfl rfl ?_
       refine wlm 1 2 rfl rfl rfl rfl rfl rfl rfl ?_
       refine wlo 2 3 rfl rfl rfl (wo_run rfl rfl (run_neq rfl rfl rfl) ?_)
       refine wl_end rfl ?_
       refine nm_sub [(0, _), (1, _), (5, _), (7, _), (8, _), (29, _), (30, _), (31, _), (10, _), (41, _), (42, _), (13, _), (14, _), (59, _)] ⟨rfl, rfl, rfl, rfl, rfl, rfl, rfl, rfl, rfl, rfl, rfl, rfl, rfl, rfl, trivial⟩ ?_
       refine nm_thn ?_
       refine ws_condN rings_n62 rings_n63 rfl rfl rfl rfl (fun hb59 => ?_) (fun hb59 => ?_)
       ·replace hb59 := of_decide_eq_true hb59
        refine ws_seqN rings_n64 rings_n65 rfl rfl rfl ?_
        refine ws_region rfl ?_
        refine wlm 0 1 rfl rfl rfl rfl rfl rfl rfl ?_
        refine wlm 1 2 rfl rfl rfl rfl rfl rfl rfl ?_
        refine wlo 2 3 rfl rfl rfl (wo_run rfl rfl (run_indexP (e := r2 (crArc (ga d.crs k) (if j = 0 then tdV (m / 2 ^ k % 2) 0 else tdV (m / 2 ^ k % 2) 2).toNat).toNat) (k := 1) rfl rfl rfl Tryd.underlying78 sz3 (by first | rfl | omega) (by first | omega | (simp only [lens]; omega))) ?_)
        refine wlo 3 4 rfl rfl rfl (wo_storeB (i := 2) (us := [_]) (l' := [.int .i64 (ga (c7.set (r2 (crArc (ga d.crs k) (if j = 0 then tdV (m / 2 ^ k % 2) 0 else tdV (m / 2 ^ k % 2) 2).toNat).toNat) ((r2 (crArc (ga d.crs k) (if j = 0 then tdV (m / 2 ^ k % 2) 1 else tdV (m / 2 ^ k % 2) 3).toNat).toNat : Nat) : Int)) 0), .int .i64 (ga (c7.set (r2 (crArc (ga d.crs k) (if j = 0 then tdV (m / 2 ^ k % 2) 0 else tdV (m / 2 ^ k % 2) 2).toNat).toNat) ((r2 (crArc (ga d.crs k) (if j = 0 then tdV (m / 2 ^ k % 2) 1 else tdV (m / 2 ^ k % 2) 3).toNat).toNat : Nat) : Int)) 1), .int .i64 (ga (c7.set (r2 (crArc (ga d.crs k) (if j = 0 then tdV (m / 2 ^ k % 2) 0 else tdV (m / 2 ^ k % 2) 2).toNat).toNat) ((r2 (crArc (ga d.crs k) (if j = 0 then tdV (m / 2 ^ k % 2) 1 else tdV (m / 2 ^ k % 2) 3).toNat).toNat : Nat) : Int)) 2), .int .i64 (ga (c7.set (r2 (crArc (ga d.crs k) (if j = 0 then tdV (m / 2 ^ k % 2) 0 else tdV (m / 2 ^ k % 2) 2).toNat).toNat) ((r2 (crArc (ga d.crs k) (if j = 0 then tdV (m / 2 ^ k % 2) 1 else tdV (m / 2 ^ k % 2) 3).toNat).toNat : Nat) : Int)) 3), .int .i64 (ga (c7.set (r2 (crArc (ga d.crs k) (if j = 0 then tdV (m / 2 ^ k % 2) 0 else tdV (m / 2 ^ k % 2) 2).toNat).toNat) ((r2 (crArc (ga d.crs k) (if j = 0 then tdV (m / 2 ^ k % 2) 1 else tdV (m / 2 ^ k % 2) 3).toNat).toNat : Nat) : Int)) 4), .int .i64 (ga (c7.set (r2 (crArc (ga d.crs k) (if j = 0 then tdV (m / 2 ^ k % 2) 0 else tdV (m / 2 ^ k % 2) 2).toNat).toNat) ((r2 (crArc (ga d.crs k) (if j = 0 then tdV (m / 2 ^ k % 2) 1 else tdV (m / 2 ^ k % 2) 3).toNat).toNat : Nat) : Int)) 5), .int .i64 (ga (c7.set (r2 (crArc (ga d.crs k) (if j = 0 then tdV (m / 2 ^ k % 2) 0 else tdV (m / 2 ^ k % 2) 2).toNat).toNat) ((r2 (crArc (ga d.crs k) (if j = 0 then tdV (m / 2 ^ k % 2) 1 else tdV (m / 2 ^ k % 2) 3).toNat).toNat : Nat) : Int)) 6), .int .i64 (ga (c7.set (r2 (crArc (ga d.crs k) (if j = 0 then tdV (m / 2 ^ k % 2) 0 else tdV (m / 2 ^ k % 2) 2).toNat).toNat) ((r2 (crArc (ga d.crs k) (if j = 0 then tdV (m / 2 ^ k % 2) 1 else tdV (m / 2 ^ k % 2) 3).toNat).toNat : Nat) : Int)) 7), .int .i64 (ga (c7.set (r2 (crArc (ga d.crs k) (if j = 0 then tdV (m / 2 ^ k % 2) 0 else tdV (m / 2 ^ k % 2) 2).toNat).toNat) ((r2 (crArc (ga d.crs k) (if j = 0 then tdV (m / 2 ^ k % 2) 1 else tdV (m / 2 ^ k % 2) 3).toNat).toNat : Nat) : Int)) 8), .int .i64 (ga (c7.set (r2 (crArc (ga d.crs k) (if j = 0 then tdV (m / 2 ^ k % 2) 0 else tdV (m / 2 ^ k % 2) 2).toNat).toNat) ((r2 (crArc (ga d.crs k) (if j = 0 then tdV (m / 2 ^ k % 2) 1 else tdV (m / 2 ^ k % 2) 3).toNat).toNat : Nat) : Int)) 9), .int .i64 (ga (c7.set (r2 (crArc (ga d.crs k) (if j = 0 then tdV (m / 2 ^ k % 2) 0 else tdV (m / 2 ^ k % 2) 2).toNat).toNat) ((r2 (crArc (ga d.crs k) (if j = 0 then tdV (m / 2 ^ k % 2) 1 else tdV (m / 2 ^ k % 2) 3).toNat).toNat : Nat) : Int)) 10), .int .i64 (ga (c7.set (r2 (crArc (ga d.crs k) (if j = 0 then tdV (m / 2 ^ k % 2) 0 else tdV (m / 2 ^ k % 2) 2).toNat).toNat) ((r2 (crArc (ga d.crs k) (if j = 0 then tdV (m / 2 ^ k % 2) 1 else tdV (m / 2 ^ k % 2) 3).toNat).toNat : Nat) : Int)) 11), .int .i64 (ga (c7.set (r2 (crArc (ga d.crs k) (if j = 0 then tdV (m / 2 ^ k % 2) 0 else tdV (m / 2 ^ k % 2) 2).toNat).toNat) ((r2 (crArc (ga d.crs k) (if j = 0 then tdV (m / 2 ^ k % 2) 1 else tdV (m / 2 ^ k % 2) 3).toNat).toNat : Nat) : Int)) 12), .int .i64 (ga (c7.set (r2 (crArc (ga d.crs k) (if j = 0 then tdV (m / 2 ^ k % 2) 0 else tdV (m / 2 ^ k % 2) 2).toNat).toNat) ((r2 (crArc (ga d.crs k) (if j = 0 then tdV (m / 2 ^ k % 2) 1 else tdV (m / 2 ^ k % 2) 3).toNat).toNat : Nat) : Int)) 13), .int .i64 (ga (c7.set (r2 (crArc (ga d.crs k) (if j = 0 then tdV (m / 2 ^ k % 2) 0 else tdV (m / 2 ^ k % 2) 2).toNat).toNat) ((r2 (crArc (ga d.crs k) (if j = 0 then tdV (m / 2 ^ k % 2) 1 else tdV (m / 2 ^ k % 2) 3).toNat).toNat : Nat) : Int)) 14), .int .i64 (ga (c7.set (r2 (crArc (ga d.crs k) (if j = 0 then tdV (m / 2 ^ k % 2) 0 else tdV (m / 2 ^ k % 2) 2).toNat).toNat) ((r2 (crArc (ga d.crs k) (if j = 0 then tdV (m / 2 ^ k % 2) 1 else tdV (m / 2 ^ k % 2) 3).toNat).toNat : Nat) : Int)) 15), .int .i64 (ga (c7.set (r2 (crArc (ga d.crs k) (if j = 0 then tdV (m / 2 ^ k % 2) 0 else tdV (m / 2 ^ k % 2) 2).toNat).toNat) ((r2 (crArc (ga d.crs k) (if j = 0 then tdV (m / 2 ^ k % 2) 1 else tdV (m / 2 ^ k % 2) 3).toNat).toNat : Nat) : Int)) 16), .int .i64 (ga (c7.set (r2 (crArc (ga d.crs k) (if j = 0 then tdV (m / 2 ^ k % 2) 0 else tdV (m / 2 ^ k % 2) 2).toNat).toNat) ((r2 (crArc (ga d.crs k) (if j = 0 then tdV (m / 2 ^ k % 2) 1 else tdV (m / 2 ^ k % 2) 3).toNat).toNat : Nat) : Int)) 17), .int .i64 (ga (c7.set (r2 (crArc (ga d.crs k) (if j = 0 then tdV (m / 2 ^ k % 2) 0 else tdV (m / 2 ^ k % 2) 2).toNat).toNat) ((r2 (crArc (ga d.crs k) (if j = 0 then tdV (m / 2 ^ k % 2) 1 else tdV (m / 2 ^ k % 2) 3).toNat).toNat : Nat) : Int)) 18), .int .i64 (ga (c7.set (r2 (crArc (ga d.crs k) (if j = 0 then tdV (m / 2 ^ k % 2) 0 else tdV (m / 2 ^ k % 2) 2).toNat).toNat) ((r2 (crArc (ga d.crs k) (if j = 0 then tdV (m / 2 ^ k % 2) 1 else tdV (m / 2 ^ k % 2) 3).toNat).toNat : Nat) : Int)) 19), .int .i64 (ga (c7.set (r2 (crArc (ga d.crs k) (if j = 0 then tdV (m / 2 ^ k % 2) 0 else tdV (m / 2 ^ k % 2) 2).toNat).toNat) ((r2 (crArc (ga d.crs k) (if j = 0 then tdV (m / 2 ^ k % 2) 1 else tdV (m / 2 ^ k % 2) 3).toNat).toNat : Nat) : Int)) 20), .int .i64 (ga (c7.set (r2 (crArc (ga d.crs k) (if j = 0 then tdV (m / 2 ^ k % 2) 0 else tdV (m / 2 ^ k % 2) 2).toNat).toNat) ((r2 (crArc (ga d.crs k) (if j = 0 then tdV (m / 2 ^ k % 2) 1 else tdV (m / 2 ^ k % 2) 3).toNat).toNat : Nat) : Int)) 21), .int .i64 (ga (c7.set (r2 (crArc (ga d.crs k) (if j = 0 then tdV (m / 2 ^ k % 2) 0 else tdV (m / 2 ^ k % 2) 2).toNat).toNat) ((r2 (crArc (ga d.crs k) (if j = 0 then tdV (m / 2 ^ k % 2) 1 else tdV (m / 2 ^ k % 2) 3).toNat).toNat : Nat) : Int)) 22), .int .i64 (ga (c7.set (r2 (crArc (ga d.crs k) (if j = 0 then tdV (m / 2 ^ k % 2) 0 else tdV (m / 2 ^ k % 2) 2).toNat).toNat) ((r2 (crArc (ga d.crs k) (if j = 0 then tdV (m / 2 ^ k % 2) 1 else tdV (m / 2 ^ k % 2) 3).toNat).toNat : Nat) : Int)) 23), .int .i64 (ga (c7.set (r2 (crArc (ga d.crs k) (if j = 0 then tdV (m / 2 ^ k % 2) 0 else tdV (m / 2 ^ k % 2) 2).toNat).toNat) ((r2 (crArc (ga d.crs k) (if j = 0 then tdV (m / 2 ^ k % 2) 1 else tdV (m / 2 ^ k % 2) 3).toNat).toNat : Nat) : Int)) 24)]) (H' := [_, _, _]) rfl rfl S25 rfl rfl rfl rfl sz3 (ble_fn25 (fun k => Value.int .i64 (ga c7 k)) _ (by first | omega | (simp only [lens]; omega))) rfl (spl_g25 c7 ((r2 (crArc (ga d.crs k) (if j = 0 then tdV (m / 2 ^ k % 2) 1 else tdV (m / 2 ^ k % 2) 3).toNat).toNat : Nat) : Int) (by first | omega | (simp only [lens]; omega)) (by first | assumption | omega)) rfl ?_)
        intro w26 S26; clear S25
        refine wl_end rfl ?_
        refine nm_sub [(0, _), (1, _), (5, _), (7, _), (8, _), (29, _), (30, _), (31, _), (10, _), (41, _), (42, _)] ⟨rfl, rfl, rfl, rfl, rfl, rfl, rfl, rfl, rfl, rfl, rfl, trivial⟩ ?_
        refine nm_thn ?_
        refine ws_region rfl ?_
        refine wlm 0 1 rfl rfl rfl rfl rfl rfl rfl ?_
        refine wlo 1 2 rfl rfl rfl (wo_run rfl rfl (run_sub rfl rfl rfl (by first | omega | (simp only [lens]; omega))) ?_)
        refine wla 2 3 rfl rfl rfl rfl rfl rfl rfl ?_
        refine wl_end rfl ?_
        refine nm_blk ?_
        refine nm_sub [(0, _), (1, _), (5, _), (7, _), (8, _), (29, _), (30, _), (31, _), (10, _), (41, _), (42, _)] ⟨rfl, rfl, rfl, rfl, rfl, rfl, rfl, rfl, rfl, rfl, rfl, trivial⟩ ?_
        refine nm_thn ?_
        refine ws_region rfl ?_
        refine wlo 0 1 rfl rfl rfl (wo_run rfl rfl (run_add rfl rfl rfl (by first | omega | (simp only [lens]; omega))) ?_)
        refine wlm 1 2 rfl rfl rfl rfl rfl rfl rfl ?_
        refine wl_end rfl ?_
        refine nm_lp ?_
        intro ax_ hax_
        refine ⟨_, ?hq5m, ⟨j + 1, (c7.set (r2 (crArc (ga d.crs k) (if j = 0 then tdV (m / 2 ^ k % 2) 0 else tdV (m / 2 ^ k % 2) 2).toNat).toNat) ((r2 (crArc (ga d.crs k) (if j = 0 then tdV (m / 2 ^ k % 2) 1 else tdV (m / 2 ^ k % 2) 3).toNat).toNat : Nat) : Int)), n2 - 1, (fun x => if r2 x = r2 (crArc (ga d.crs k) (if j = 0 then tdV (m / 2 ^ k % 2) 0 else tdV (m / 2 ^ k % 2) 2).toNat).toNat then r2 (crArc (ga d.crs k) (if j = 0 then tdV (m / 2 ^ k % 2) 1 else tdV (m / 2 ^ k % 2) 3).toNat).toNat else r2 x), (fun x => if r2 x = r2 (crArc (ga d.crs k) (if j = 0 then tdV (m / 2 ^ k % 2) 0 else tdV (m / 2 ^ k % 2) 2).toNat).toNat then h2 x + 1 + h2 (r2 (crArc (ga d.crs k) (if j = 0 then tdV (m / 2 ^ k % 2) 1 else tdV (m / 2 ^ k % 2) 3).toNat).toNat) else h2 x), rfl, hax_.sub ⟨rfl, rfl, rfl, rfl, rfl, rfl, rfl, rfl, rfl, rfl, rfl, trivial⟩, S26.pick [1, 2] [_, _] (by decide) ⟨rfl, rfl, trivial⟩, ?hq5f0, ?hq5f1, ?hq5f2, ?hq5f3, ?hq5f4⟩⟩
        case hq5f0 => omega
        case hq5f1 => first | exact hc7 | (rw [List.length_set]; exact hc7)
        case hq5f2 => first | exact hR2 | exact hR2.put (a := (crArc (ga d.crs k) (if j = 0 then tdV (m / 2 ^ k % 2) 0 else tdV (m / 2 ^ k % 2) 2).toNat).toNat) (b := (crArc (ga d.crs k) (if j = 0 then tdV (m / 2 ^ k % 2) 1 else tdV (m / 2 ^ k % 2) 3).toNat).toNat) (by omega) (by omega) (by omega)
        case hq5f3 => (rw [hps9, rnW_snoc]; first | exact hS2.put (a := (crArc (ga d.crs k) (if j = 0 then tdV (m / 2 ^ k % 2) 0 else tdV (m / 2 ^ k % 2) 2).toNat).toNat) (b := (crArc (ga d.crs k) (if j = 0 then tdV (m / 2 ^ k % 2) 1 else tdV (m / 2 ^ k % 2) 3).toNat).toNat) (by omega) (by omega) (by omega) | (rw [(hS2.none_ (a := (crArc (ga d.crs k) (if j = 0 then tdV (m / 2 ^ k % 2) 0 else tdV (m / 2 ^ k % 2) 2).toNat).toNat) (b := (crArc (ga d.crs k) (if j = 0 then tdV (m / 2 ^ k % 2) 1 else tdV (m / 2 ^ k % 2) 3).toNat).toNat) (by omega) (by omega) (by omega)).1]; exact hS2))
        case hq5f4 => (rw [hps9, rnC_snoc]; first | (rw [hS2.one (a := (crArc (ga d.crs k) (if j = 0 then tdV (m / 2 ^ k % 2) 0 else tdV (m / 2 ^ k % 2) 2).toNat).toNat) (b := (crArc (ga d.crs k) (if j = 0 then tdV (m / 2 ^ k % 2) 1 else tdV (m / 2 ^ k % 2) 3).toNat).toNat) (by omega) (by omega) (by omega)]; omega) | (rw [(hS2.none_ (a := (crArc (ga d.crs k) (if j = 0 then tdV (m / 2 ^ k % 2) 0 else tdV (m / 2 ^ k % 2) 2).toNat).toNat) (b := (crArc (ga d.crs k) (if j = 0 then tdV (m / 2 ^ k % 2) 1 else tdV (m / 2 ^ k % 2) 3).toNat).toNat) (by omega) (by omega) (by omega)).2]; omega))
        case hq5m => omega
       ·replace hb59 := of_decide_eq_false hb59
        refine ws_skip rfl ?_
        refine nm_blk ?_
        refine nm_sub [(0, _), (1, _), (5, _), (7, _), (8, _), (29, _), (30, _), (31, _), (10, _), (41, _), (42, _)] ⟨rfl, rfl, rfl, rfl, rfl, rfl, rfl, rfl, rfl, rfl, rfl, trivial⟩ ?_
        refine nm_thn ?_
        refine ws_region rfl ?_
        refine wlo 0 1 rfl rfl rfl (wo_run rfl rfl (run_add rfl rfl rfl (by first | omega | (simp only [lens]; omega))) ?_)
        refine wlm 1 2 rfl rfl rfl rfl rfl rfl rfl ?_
        refine wl_end rfl ?_
        refine nm_lp ?_
        intro ax_ hax_
        refine ⟨_, ?hq6m, ⟨j + 1, c7, n2, r2, h2, rfl, hax_.sub ⟨rfl, rfl, rfl, rfl, rfl, rfl, rfl, rfl, rfl, rfl, rfl, trivial⟩, S25.pick [1, 2] [_, _] (by decide) ⟨rfl, rfl, trivial⟩, ?hq6f0, ?hq6f1, ?hq6f2, ?hq6f3, ?hq6f4⟩⟩
        case hq6f0 => omega
        case hq6f1 => first | exact hc7 | (rw [List.length_set]; exact hc7)
        case hq6f2 => first | exact hR2 | exact hR2.put (a := (crArc (ga d.crs k) (if j = 0 then tdV (m / 2 ^ k % 2) 0 else tdV (m / 2 ^ k % 2) 2).toNat).toNat) (b := (crArc (ga d.crs k) (if j = 0 then tdV (m / 2 ^ k % 2) 1 else tdV (m / 2 ^ k % 2) 3).toNat).toNat) (by omega) (by omega) (by omega)
        case hq6f3 => (rw [hps9, rnW_snoc]; first | exact hS2.put (a := (crArc (ga d.crs k) (if j = 0 then tdV (m / 2 ^ k % 2) 0 else tdV (m / 2 ^ k % 2) 2).toNat).toNat) (b := (crArc (ga d.crs k) (if j = 0 then tdV (m / 2 ^ k % 2) 1 else tdV (m / 2 ^ k % 2) 3).toNat).toNat) (by omega) (by omega) (by omega) | (rw [(hS2.none_ (a := (crArc (ga d.crs k) (if j = 0 then tdV (m / 2 ^ k % 2) 0 else tdV (m / 2 ^ k % 2) 2).toNat).toNat) (b := (crArc (ga d.crs k) (if j = 0 then tdV (m / 2 ^ k % 2) 1 else tdV (m / 2 ^ k % 2) 3).toNat).toNat) (by omega) (by omega) (by omega)).1]; exact hS2))
        case hq6f4 => (rw [hps9, rnC_snoc]; first | (rw [hS2.one (a := (crArc (ga d.crs k) (if j = 0 then tdV (m / 2 ^ k % 2) 0 else tdV (m / 2 ^ k % 2) 2).toNat).toNat) (b := (crArc (ga d.crs k) (if j = 0 then tdV (m / 2 ^ k % 2) 1 else tdV (m / 2 ^ k % 2) 3).toNat).toNat) (by omega) (by omega) (by omega)]; omega) | (rw [(hS2.none_ (a := (crArc (ga d.crs k) (if j = 0 then tdV (m / 2 ^ k % 2) 0 else tdV (m / 2 ^ k % 2) 2).toNat).toNat) (b := (crArc (ga d.crs k) (if j = 0 then tdV (m / 2 ^ k % 2) 1 else tdV (m / 2 ^ k % 2) 3).toNat).toNat) (by omega) (by omega) (by omega)).2]; omega))
        case hq6m => omega
      ·replace hb43 := of_decide_eq_false hb43
       refine ws_exit rfl rfl ?_
       refine nm_blk ?_
       refine nm_sub [(0, _), (1, _), (5, _), (7, _), (8, _), (29, _), (30, _), (31, _)] ⟨rfl, rfl, rfl, rfl, rfl, rfl, rfl, rfl, trivial⟩ ?_
       refine nm_thn ?_
       refine ws_region rfl ?_
       refine wlo 0 1 rfl rfl rfl (wo_run rfl rfl (run_add rfl rfl rfl (by first | omega | (simp only [lens]; omega))) ?_)
       refine wlm 1 2 rfl rfl rfl rfl rfl rfl rfl ?_
       refine wl_end rfl ?_
       refine nm_lp ?_
       intro ax_ hax_
       refine ⟨_, ?hq7m, ⟨k + 1, c7, n2, r2, h2, rfl, hax_.sub ⟨rfl, rfl, rfl, rfl, rfl, rfl, rfl, rfl, trivial⟩, S8.pick [1] [_] (by decide) ⟨rfl, trivial⟩, ?hq7f0, ?hq7f1, ?hq7f2, ?hq7f3, ?hq7f4⟩⟩
       case hq7f0 => omega
       case hq7f1 => exact hc7
       case hq7f2 => exact hR2
       case hq7f3 => (have e9 : (prB (ga d.crs k) ((flipN m) k)).take j = prB (ga d.crs k) ((flipN m) k) := List.take_of_length_le (by rw [prB_len]; omega); rw [e9] at hS2; exact hS2)
       case hq7f4 => (have e9 : (prB (ga d.crs k) ((flipN m) k)).take j = prB (ga d.crs k) ((flipN m) k) := List.take_of_length_le (by rw [prB_len]; omega); rw [e9] at hn2; exact hn2)
       case hq7m => omega
    ·replace hb32 := of_decide_eq_false hb32
     refine ws_exit rfl rfl ?_
     refine nm_sub [(0, _), (8, _)] ⟨rfl, rfl, trivial⟩ ?_
     refine nm_thn ?_
     refine ws_seqN rings_n66 rings_n67 rfl rfl rfl ?_
     refine ws_region rfl ?_
     refine wlm 0 1 rfl rfl rfl rfl rfl rfl rfl ?_
     refine wlm 1 2 rfl rfl rfl rfl rfl rfl rfl ?_
     refine wlo 2 3 rfl rfl rfl (wo_run rfl rfl (run_nilCheck rfl rfl) ?_)
     refine wlo 3 4 rfl rfl rfl (wo_run rfl rfl (run_fieldAddr rfl rfl Tryd.underlying53 rfl (ce24) (nf24)) ?_)
     refine wlo 4 5 rfl rfl rfl (wo_run rfl rfl (run_fieldAddr rfl rfl Tryd.underlying24 rfl (ce3) (nf3)) ?_)
     refine wlo 5 6 rfl rfl rfl (wo_run rfl rfl (run_load1 rfl rfl Tryd.underlying3 rfl (hsb.cell S5.um rfl)) ?_)
     refine wlo 6 7 rfl rfl rfl (wo_run rfl rfl (run_add rfl rfl rfl (by first | omega | (simp only [lens]; omega))) ?_)
     refine wla 7 8 rfl rfl rfl rfl rfl rfl rfl ?_
     refine wl_end rfl ?_
     refine nm_sub [(4, _)] ⟨rfl, trivial⟩ ?_
     refine nm_thn ?_
     refine ws_ret hC [_] rfl rfl ⟨rfl, trivial⟩ ?_
     exact ⟨_, rfl, (S5.pick [] [] (by decide) trivial), (congrArg (Value.int .i64) (by rw [hnn]; unfold rngF; rw [show d.crs.length = k by omega]; omega))⟩
end Go.Proofs.YtlmcnpbkmihjkaaDoor
