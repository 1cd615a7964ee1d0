/- Part 10 of the proof of the law ColourCounts: the walks through its functions and the plain laws that they need. -/
import Derived.Test.YtefkjfcncpmneaaCcZ9
set_option linter.unusedSimpArgs false
set_option linter.unusedVariables false
namespace Go.Proofs.Ytefkjfcncpmneaa
open Go.ChangeShapes Go.WideShapes Go.ChangeAt Go.RowKit
def LV (q : List (List Int)) (l : List Int) : Prop := ∀ i, i < l.length → 0 ≤ ga l i ∧ ga l i < (q.length : Int)
theorem LV.set_ {q : List (List Int)} {l : List Int} (h : LV q l) {a c : Nat} (ha : a < l.length) (hc : c < q.length) : LV q (l.set a (c : Int)) := fun i hi => by
 rw [List.length_set] at hi
 rw [ga_set _ _ _ _ ha]
 split
 ·omega
 ·exact h i hi
theorem cntT_bd {d : Dg} {q : List (List Int)} (hF : QuF q) (hn : d.crs.length ≤ 10) {p : List Int} (h : 1 ≤ p.length) : cntT d q p ≤ 1099511627776 := by
 refine Nat.le_trans (cntT_le d q p) ?_
 refine Nat.le_trans (Nat.pow_le_pow_left hF.2.1 _) ?_
 exact Nat.le_trans (Nat.pow_le_pow_right (by omega) (by omega : 2 * d.crs.length + 1 - p.length ≤ 20)) (by decide)
theorem take_pt {l l1 : List Int} {a : Nat} {c : Int} (hl : l1.length = l.length) (h : ∀ x, x < a → ga l1 x = ga l x) (ha : a < l.length) : (l1.set a c).take (a + 1) = l.take a ++ [c] := by
 have e1 : (l1.set a c).take (a + 1) = (l1.set a c).take a ++ [ga (l1.set a c) a] := take_ga _ a (by rw [List.length_set]; omega)
 rw [e1, ga_set _ _ _ _ (by omega), if_pos rfl]
 congr 1
 refine ga_ext (by simp; omega) fun x hx => ?_
 rw [List.length_take, List.length_set] at hx
 rw [ga_take _ _ _ (by omega), ga_take _ _ _ (by omega), ga_set _ _ _ _ (by omega), if_neg (by omega)]
 exact h x (by omega)
theorem okX_eq {d : Dg} {q : List (List Int)} {l p : List Int} {a k : Nat} (h : ∀ x, x ≤ a → ga p x = ga l x) (ho : okX d q p a k) : okX d q l a k := by
 refine ⟨fun h1 h2 => ?_, fun h1 h2 h3 => ?_⟩
 ·rw [← h _ h1, ← h _ h2]; exact ho.1 h1 h2
 ·have := ho.2 h1 h2 h3
  rwa [h _ h1, h _ h2, h _ h3] at this
noncomputable def counted_n0 : Code := Try.f59.body.getD .skip
noncomputable def counted_n1 : Code := cL counted_n0
noncomputable def counted_n2 : Code := cR counted_n0
noncomputable def counted_n3 : Code := cL counted_n2
noncomputable def counted_n4 : Code := cR counted_n2
noncomputable def counted_n5 : Code := cL counted_n3
noncomputable def counted_n6 : Code := cR counted_n3
noncomputable def counted_n7 : Code := cL counted_n6
noncomputable def counted_n8 : Code := cR counted_n6
noncomputable def counted_n9 : Code := cL counted_n7
noncomputable def counted_n10 : Code := cR counted_n7
noncomputable def counted_n11 : Code := cL counted_n4
noncomputable def counted_n12 : Code := cR counted_n4
noncomputable def counted_n13 : Code := cL counted_n12
noncomputable def counted_n14 : Code := cR counted_n12
noncomputable def counted_n15 : Code := cL counted_n13
noncomputable def counted_n16 : Code := cR counted_n13
noncomputable def counted_n17 : Code := cL counted_n16
noncomputable def counted_n18 : Code := cL counted_n17
noncomputable def counted_n19 : Code := cL counted_n18
noncomputable def counted_n20 : Code := cR counted_n18
noncomputable def counted_n21 : Code := cL counted_n19
noncomputable def counted_n22 : Code := cR counted_n19
noncomputable def counted_n23 : Code := cL counted_n22
noncomputable def counted_n24 : Code := cR counted_n22
noncomputable def counted_n25 : Code := cL counted_n20
noncomputable def counted_n26 : Code := cR counted_n20
noncomputable def counted_n27 : Code := cL counted_n25
noncomputable def counted_n28 : Code := cL counted_n27
noncomputable def counted_n29 : Code := cR counted_n27
noncomputable def counted_n30 : Code := cL counted_n29
noncomputable def counted_n31 : Code := cR counted_n29
noncomputable def counted_n32 : Code := cL counted_n31
noncomputable def counted_n33 : Code := cR counted_n31
noncomputable def counted_n34 : Code := cL counted_n32
noncomputable def counted_n35 : Code := cR counted_n32
noncomputable def counted_n36 : Code := cL counted_n35
noncomputable def counted_n37 : Code := cL counted_n36
noncomputable def counted_n38 : Code := cL counted_n37
noncomputable def counted_n39 : Code := cR counted_n37
noncomputable def counted_n40 : Code := cL counted_n38
noncomputable def counted_n41 : Code := cR counted_n38
noncomputable def counted_n42 : Code := cL counted_n41
noncomputable def counted_n43 : Code := cR counted_n41
noncomputable def counted_n44 : Code := cL counted_n39
noncomputable def counted_n45 : Code := cR counted_n39
noncomputable def counted_n46 : Code := cL counted_n44
noncomputable def counted_n47 : Code := cL counted_n46
noncomputable def counted_n48 : Code := cR counted_n46
noncomputable def counted_n49 : Code := cL counted_n48
noncomputable def counted_n50 : Code := cR counted_n48
noncomputable def counted_n51 : Code := cL counted_n49
noncomputable def counted_n52 : Code := cR counted_n49
noncomputable def counted_n53 : Code := cL counted_n52
noncomputable def counted_n54 : Code := cR counted_n52
noncomputable def counted_n55 : Code := cL counted_n50
noncomputable def counted_n56 : Code := cR counted_n50
noncomputable def counted_n57 : Code := cL counted_n56
noncomputable def counted_n58 : Code := cR counted_n56
noncomputable def counted_n59 : Code := cL counted_n57
noncomputable def counted_n60 : Code := cR counted_n57
noncomputable def counted_n61 : Code := cL counted_n60
noncomputable def counted_n62 : Code := cR counted_n60
noncomputable def counted_n63 : Code := cL counted_n61
noncomputable def counted_n64 : Code := cR counted_n61
noncomputable def counted_n65 : Code := cL counted_n64
noncomputable def counted_n66 : Code := cR counted_n64
noncomputable def counted_n67 : Code := cL counted_n33
noncomputable def counted_n68 : Code := cR counted_n33
noncomputable def counted_n69 : Code := cL counted_n68
noncomputable def counted_n70 : Code := cR counted_n68
noncomputable def counted_n71 : Code := cL counted_n14
noncomputable def counted_n72 : Code := cR counted_n14
set_option maxHeartbeats 4000000 in
set_option maxRecDepth 10000 in
theorem counted_step {w : World} {M : Hp} {X : Fr} (d : Dg) {dcrsA : Option Addr} {dcrsc : Nat} (q : List (List Int)) {qA : Option Addr} {qc : Nat} {qv : List SlV} (vl : Value) (l : List Int) (a : Nat) (hdcrs : RdA cdCr (M.un X.h) dcrsA dcrsc d.crs) (hq : RdA (cdV 33) (M.un X.h) qA qc qv) (hdq : Rd2 cdInt (M.un X.h) qv q) (hQF : QuF q) (hn : d.crs.length ≤ 10) (hab : arcsB d = true) (hl : l.length = 2 * d.crs.length + 1) (hlv : LV q l) (ha : 1 ≤ a ∧ a ≤ 2 * d.crs.length + 1) (hok : ∀ k, k < d.crs.length → okX d q l (a - 1) k) (ih : a < 2 * d.crs.length + 1 → ∀ (l2 : List Int), l2.length = l.length → LV q l2 → (∀ k, k < d.crs.length → okX d q l2 a k) → ∀ (v2 : Value) (w : World) (M : Hp) (X : Fr) {dcrsA qA : Option Addr} {dcrsc qc : Nat} {qv : List SlV}, RdA cdCr (M.un X.h) dcrsA dcrsc d.crs → RdA (cdV 33) (M.un X.h) qA qc qv → Rd2 cdInt (M.un X.h) qv q → SH w M X [Rs.row cdInt v2 l2] → C1 Try.prog 59 [.agg [.slice dcrsA d.crs.length dcrsc, .int .i64 d.loops].toArray, .slice qA qv.length qc, v2, .int .i64 ((a + 1 : Nat) : Int)] w M X (fun u M' r' => M' = M ∧ ∃ l', u = .int .i64 ((cntT d q (l2.take (a + 1)) : Nat) : Int) ∧ l'.length = l2.length ∧ (∀ x, x < a + 1 → ga l' x = ga l2 x) ∧ LV q l' ∧ r' = Rs.row cdInt v2 l')) (S : SH w M X [Rs.row cdInt vl l]) : C1 Try.prog 59 [.agg [.slice dcrsA d.crs.length dcrsc, .int .i64 d.loops].toArray, .slice qA qv.length qc, vl, .int .i64 (a : Int)] w M X (fun u M' r' => M' = M ∧ ∃ l', u = .int .i64 ((cntT d q (l.take a) : Nat) : Int) ∧ l'.length = l.length ∧ (∀ x, x < a → ga l' x = ga l x) ∧ LV q l' ∧ r' = Rs.row cdInt vl l') := by
 unfold C1
 have rmhdcrs : d.crs.length * 40 ≤ 140737488355328 := hdcrs.room
 have rmhq : qv.length * 24 ≤ 140737488355328 := hq.room
 have hlq := hdq.1
 have hq4 := hQF.2.1
 refine calls_in (b := counted_n0) Try.func59 rfl Try.ntmps59 rfl (fun C hC => ?_)
 refine ws_sub [(0, _), (1, _), (2, _), (3, _)] ⟨rfl, rfl, rfl, rfl, trivial⟩ ?_
 refine ws_seqN counted_n1 counted_n2 rfl rfl rfl ?_
 refine ws_region rfl ?_
 refine wlo 0 1 rfl rfl rfl (wo_box (l := [_, _]) rfl rfl rfl rfl rfl S ?_)
 intro gb1 w1 S1; clear S
 refine wla 1 2 rfl rfl rfl rfl rfl rfl rfl ?_
 refine wl_end rfl ?_
 refine nm_sub [(1, _), (2, _), (3, _), (4, _)] ⟨rfl, rfl, rfl, rfl, trivial⟩ ?_
 refine nm_thn ?_
 refine ws_seqN counted_n3 counted_n4 rfl rfl rfl ?_
 refine ws_seqN counted_n5 counted_n6 rfl rfl rfl ?_
 refine ws_region rfl ?_
 refine wlm 0 1 rfl rfl rfl rfl rfl rfl rfl ?_
 refine wlm 1 2 rfl rfl rfl rfl rfl rfl rfl ?_
 refine wlo 2 3 rfl rfl rfl (wo_run rfl rfl (run_lenR (C := cdInt) (i := 1) rfl rfl rfl rfl rfl rfl sl33 S1 rfl) ?_)
 refine wlo 3 4 rfl rfl rfl (wo_run rfl rfl (run_eql rfl rfl rfl) ?_)
 refine wl_end rfl ?_
 refine nm_sub [(1, _), (2, _), (3, _), (4, _), (19, _)] ⟨rfl, rfl, rfl, rfl, rfl, trivial⟩ ?_
 refine nm_thn ?_
 refine ws_condN counted_n7 counted_n8 rfl rfl rfl rfl (fun hb19 => ?_) (fun hb19 => ?_)
 ·replace hb19 := of_decide_eq_true hb19
  refine ws_seqN counted_n9 counted_n10 rfl rfl rfl ?_
  refine ws_region rfl ?_
  refine wla 0 1 rfl rfl rfl rfl rfl rfl rfl ?_
  refine wl_end rfl ?_
  refine nm_sub [(8, _)] ⟨rfl, trivial⟩ ?_
  refine nm_thn ?_
  refine ws_ret hC [_] rfl rfl ⟨rfl, trivial⟩ ?_
  exact ⟨_, rfl, _, _, Hp.le_refl _, S1.pick [1] [_] (by decide) ⟨rfl, trivial⟩, ⟨rfl, l, congrArg (Value.int .i64) (by rw [List.take_of_length_le (by omega), cntT_end hl (fun k hk => by have h9 := hok k hk; rw [show a - 1 = 2 * d.crs.length by omega] at h9; exact h9)]; rfl), rfl, fun _ _ => rfl, hlv, rfl⟩⟩
 ·replace hb19 := of_decide_eq_false hb19
  refine ws_skip rfl ?_
  refine nm_sub [(1, _), (2, _), (3, _), (4, _)] ⟨rfl, rfl, rfl, rfl, trivial⟩ ?_
  refine nm_thn ?_
  refine ws_seqN counted_n11 counted_n12 rfl rfl rfl ?_
  refine ws_region rfl ?_
  refine wla 0 1 rfl rfl rfl rfl rfl rfl rfl ?_
  refine wl_end rfl ?_
  refine nm_thn ?_
  refine ws_seqN counted_n13 counted_n14 rfl rfl rfl ?_
  refine ws_seqN counted_n15 counted_n16 rfl rfl rfl ?_
  refine ws_region rfl ?_
  refine wla 0 1 rfl rfl rfl rfl rfl rfl rfl ?_
  refine wl_end rfl ?_
  refine nm_thn ?_
  refine ws_blockN counted_n17 0 rfl rfl rfl ?_
  refine ws_loopE (fun mx_ ax_ wx_ => ∃ (c : Nat) (l1 : List Int) (vra : Value), mx_ = q.length - c ∧ Env 133 [(1, .slice qA qv.length qc), (2, vra), (3, .int .i64 (a : Int)), (4, .pointer (some ⟨gb1, 0, none⟩)), (9, .int .i64 ((sumN (fun c => cntT d q (l.take a ++ [(c : Int)])) c : Nat) : Int)), (10, .int .i64 (c : Int))] ax_ ∧ SH wx_ M X [Rs.box gb1 24 [.slice dcrsA d.crs.length dcrsc, .int .i64 d.loops], Rs.row cdInt vra l1] ∧ vra = vl ∧ c ≤ q.length ∧ l1.length = l.length ∧ (∀ x, x < a → ga l1 x = ga l x) ∧ LV q l1) rfl ?_ ?_
  ·intro ax_ hax_
   refine ⟨_, ⟨0, l, _, rfl, hax_.sub ⟨rfl, rfl, rfl, rfl, rfl, rfl, trivial⟩, S1.pick [0, 1] [_, _] (by decide) ⟨rfl, rfl, trivial⟩, ?hq1f0, ?hq1f1, ?hq1f2, ?hq1f3, ?hq1f4⟩⟩
   case hq1f0 => rfl
   case hq1f1 => omega
   case hq1f2 => rfl
   case hq1f3 => (intro x hx; rfl)
   case hq1f4 => exact hlv
  ·rintro m1 a1 w2 ⟨c, l1, vra, rfl, he1, S2, hva, hc, hl1, hp1, hv1⟩
   clear S1
   refine ws_in he1 (c := counted_n18) rfl ?_
   clear he1 a1
   have hal : a < l.length := by omega
   have hsb : sumN (fun c => cntT d q (l.take a ++ [(c : Int)])) c ≤ c * 1099511627776 := sumN_le fun c _ => cntT_bd hQF hn (by simp)
   have hsb2 : c * 1099511627776 ≤ 4 * 1099511627776 := Nat.mul_le_mul_right _ (by omega)
   refine ws_seqN counted_n19 counted_n20 rfl rfl rfl ?_
   refine ws_seqN counted_n21 counted_n22 rfl rfl rfl ?_
   refine ws_region rfl ?_
   refine wlm 0 1 rfl rfl rfl rfl rfl rfl rfl ?_
   refine wlm 1 2 rfl rfl rfl rfl rfl rfl rfl ?_
   refine wlo 2 3 rfl rfl rfl (wo_run rfl rfl (run_len rfl rfl rfl rfl rfl rfl Try.underlying34) ?_)
   refine wlo 3 4 rfl rfl rfl (wo_run rfl rfl (run_lss rfl rfl rfl) ?_)
   refine wl_end rfl ?_
   refine nm_sub [(1, _), (2, _), (3, _), (4, _), (9, _), (10, _), (23, _)] ⟨rfl, rfl, rfl, rfl, rfl, rfl, rfl, trivial⟩ ?_
   refine nm_thn ?_
   refine ws_condN counted_n23 counted_n24 rfl rfl rfl rfl (fun hb23 => ?_) (fun hb23 => ?_)
   ·replace hb23 := of_decide_eq_true hb23
    refine ws_skip rfl ?_
    refine nm_sub [(1, _), (2, _), (3, _), (4, _), (9, _), (10, _)] ⟨rfl, rfl, rfl, rfl, rfl, rfl, trivial⟩ ?_
    refine nm_thn ?_
    refine ws_seqN counted_n25 counted_n26 rfl rfl rfl ?_
    refine ws_blockN counted_n27 1 rfl rfl rfl ?_
    refine ws_seqN counted_n28 counted_n29 rfl rfl rfl ?_
    refine ws_region rfl ?_
    refine wlm 0 1 rfl rfl rfl rfl rfl rfl rfl ?_
    refine wlm 1 2 rfl rfl rfl rfl rfl rfl rfl ?_
    refine wlm 2 3 rfl rfl rfl rfl rfl rfl rfl ?_
    refine wlo 3 4 rfl rfl rfl (wo_run rfl rfl (run_indexR (C := cdInt) (i := 1) a rfl rfl rfl sl33 S2 rfl (by first | rfl | omega) (by first | omega | (simp only [lens]; omega))) ?_)
    refine wlo 4 5 rfl rfl rfl (wo_storeR (C := cdInt) (i := 1) (e := a) (j := 0) (us := [_]) (H' := [_, _]) (c : Int) rfl rfl S2 rfl (by first | omega | (simp only [lens]; omega)) rfl rfl rfl sz3 rfl rfl rfl rfl ?_)
    intro w3 S3; clear S2
    refine wl_end rfl ?_
    refine nm_sub [(1, _), (2, _), (3, _), (4, _), (9, _), (10, _)] ⟨rfl, rfl, rfl, rfl, rfl, rfl, trivial⟩ ?_
    refine nm_thn ?_
    refine ws_seqN counted_n30 counted_n31 rfl rfl rfl ?_
    obtain ⟨l2, hl2⟩ : ∃ l2, l2 = l1.set a (c : Int) := ⟨_, rfl⟩
    rw [← hl2] at S3
    have hl9 : l2.length = l.length := by rw [hl2, List.length_set]; exact hl1
    have hlv9 : LV q l2 := by rw [hl2]; exact hv1.set_ (by omega) (by omega)
    have hp9 : ∀ x, x < a → ga l2 x = ga l x := fun x hx => by rw [hl2, ga_set _ _ _ _ (by omega), if_neg (by omega)]; exact hp1 x hx
    refine ws_region rfl ?_
    refine wla 0 1 rfl rfl rfl rfl rfl rfl rfl ?_
    refine wl_end rfl ?_
    refine nm_thn ?_
    refine ws_seqN counted_n32 counted_n33 rfl rfl rfl ?_
    refine ws_seqN counted_n34 counted_n35 rfl rfl rfl ?_
    refine ws_region rfl ?_
    refine wla 0 1 rfl rfl rfl rfl rfl rfl rfl ?_
    refine wl_end rfl ?_
    refine nm_thn ?_
    refine ws_blockN counted_n36 2 rfl rfl rfl ?_
    refine ws_loopE (fun mx_ ax_ wx_ => ∃ (i : Nat) (ok : Bool), mx_ = d.crs.length - i ∧ Env 133 [(1, .slice qA qv.length qc), (2, vra), (3, .int .i64 (a : Int)), (4, .pointer (some ⟨gb1, 0, none⟩)), (9, .int .i64 ((sumN (fun c => cntT d q (l.take a ++ [(c : Int)])) c : Nat) : Int)), (10, .int .i64 (c : Int)), (11, .bool ok), (12, .int .i64 (i : Int))] ax_ ∧ SH wx_ M X [Rs.box gb1 24 [.slice dcrsA d.crs.length dcrsc, .int .i64 d.loops], Rs.row cdInt vra l2] ∧ i ≤ d.crs.length ∧ (ok = true → ∀ j, j < i → okX d q l2 a j) ∧ (ok = false → ∃ j, j < d.crs.length ∧ ¬ okX d q l2 a j)) rfl ?_ ?_
    ·intro ax_ hax_
     refine ⟨_, ⟨0, true, rfl, hax_.sub ⟨rfl, rfl, rfl, rfl, rfl, rfl, rfl, rfl, trivial⟩, S3.pick [0, 1] [_, _] (by decide) ⟨rfl, rfl, trivial⟩, ?hq2f0, ?hq2f1, ?hq2f2⟩⟩
     case hq2f0 => omega
     case hq2f1 => (intro _ j hj; omega)
     case hq2f2 => (intro h; cases h)
    ·rintro m2 a2 w4 ⟨i, ok, rfl, he2, S4, hi, hok1, hok2⟩
     clear S3
     refine ws_in he2 (c := counted_n37) rfl ?_
     clear he2 a2
     refine ws_seqN counted_n38 counted_n39 rfl rfl rfl ?_
     refine ws_seqN counted_n40 counted_n41 rfl rfl rfl ?_
     refine ws_region rfl ?_
     refine wlm 0 1 rfl rfl rfl rfl rfl rfl rfl ?_
     refine wlo 1 2 rfl rfl rfl (wo_run rfl rfl (run_fieldAddr rfl rfl Try.underlying24 rfl (ce22) (nf22)) ?_)
     refine wlo 2 3 rfl rfl rfl (wo_run rfl rfl (run_load1 rfl rfl Try.underlying22 rfl (S4.boxc (i := 0) rfl rfl)) ?_)
     refine wlo 3 4 rfl rfl rfl (wo_run rfl rfl (run_len rfl rfl rfl rfl rfl rfl Try.underlying22) ?_)
     refine wlo 4 5 rfl rfl rfl (wo_run rfl rfl (run_lss rfl rfl rfl) ?_)
     refine wlm 5 6 rfl rfl rfl rfl rfl rfl rfl ?_
     refine wl_split (t := 35) rfl (fun hg35 => ?_) (fun hg35 => ?_)
     ·replace hg35 := of_decide_eq_true hg35
      refine wl_opG (k := 6) (k' := 7) rfl rfl ⟨_, _, _, rfl, rfl, rfl, rfl⟩ rfl (wo_run rfl rfl (run_move rfl rfl) ?_)
      refine wlo 7 8 rfl rfl rfl (wo_run rfl rfl (run_pickT rfl rfl rfl) ?_)
      refine wl_end rfl ?_
      refine nm_sub [(1, _), (2, _), (3, _), (4, _), (9, _), (10, _), (11, _), (12, _), (37, _)] ⟨rfl, rfl, rfl, rfl, rfl, rfl, rfl, rfl, rfl, trivial⟩ ?_
      refine nm_thn ?_
      refine ws_condN counted_n42 counted_n43 rfl rfl rfl rfl (fun hb37 => ?_) (fun hb37 => ?_)
      ·refine ws_skip rfl ?_
       refine nm_sub [(1, _), (2, _), (3, _), (4, _), (9, _), (10, _), (11, _), (12, _)] ⟨rfl, rfl, rfl, rfl, rfl, rfl, rfl, rfl, trivial⟩ ?_
       refine nm_thn ?_
       refine ws_seqN counted_n44 counted_n45 rfl rfl rfl ?_
       refine ws_blockN counted_n46 3 rfl rfl rfl ?_
       refine ws_seqN counted_n47 counted_n48 rfl rfl rfl ?_
       have hsd0 : 1 ≤ (ga d.crs i).a ∧ (ga d.crs i).a ≤ 2 * (d.crs.length : Int) := arcAt_bd hab (show i < d.crs.length by omega) (k := 0) (by omega)
       have hsd1 : 1 ≤ (ga d.crs i).b ∧ (ga d.crs i).b ≤ 2 * (d.crs.length : Int) := arcAt_bd hab (show i < d.crs.length by omega) (k := 1) (by omega)
       have hsd2 : 1 ≤ (ga d.crs i).c ∧ (ga d.crs i).c ≤ 2 * (d.crs.length : Int) := arcAt_bd hab (show i < d.crs.length by omega) (k := 2) (by omega)
       have hsd3 : 1 ≤ (ga d.crs i).d ∧ (ga d.crs i).d ≤ 2 * (d.crs.length : Int) := arcAt_bd hab (show i < d.crs.length by omega) (k := 3) (by omega)
       have hwa := hlv9 (ga d.crs i).a.toNat (by omega)
       have hwb := hlv9 (ga d.crs i).b.toNat (by omega)
       have hwc := hlv9 (ga d.crs i).c.toNat (by omega)
       have hza := (hQF.2.2 (ga l2 (ga d.crs i).a.toNat).toNat (by omega)).1
       have hzc := (hQF.2.2 (ga l2 (ga d.crs i).c.toNat).toNat (by omega)).1
       refine ws_region rfl ?_
       refine wlo 0 1 rfl rfl rfl (wo_run rfl rfl (run_fieldAddr rfl rfl Try.underlying24 rfl (ce22) (nf22)) ?_)
       refine wlo 1 2 rfl rfl rfl (wo_run rfl rfl (run_load1 rfl rfl Try.underlying22 rfl (S4.boxc (i := 0) rfl rfl)) ?_)
       refine wlm 2 3 rfl rfl rfl rfl rfl rfl rfl ?_
       refine wlo 3 4 rfl rfl rfl (wo_run rfl rfl (run_indexM (C := cdCr) i rfl rfl rfl sl22 (by first | rfl | omega) hdcrs (by first | omega | (simp only [lens]; omega))) ?_)
       refine wlo 4 5 rfl rfl rfl (wo_run rfl rfl (run_loadN (us := [_, _, _, _, _]) rfl rfl Try.underlying59 rfl sz59 (hdcrs.cellsAt S4.um (e := i) (by first | omega | (simp only [lens]; omega)) (j := 0) ⟨rfl, rfl, rfl, rfl, rfl, trivial⟩)) ?_)
       refine wlo 5 6 rfl rfl rfl (wo_alloc (l := [_, _, _, _, _]) rfl rfl rfl zr59 rfl S4 ?_)
       intro gb2 w5 S5; clear S4
       refine wlo 6 7 rfl rfl rfl (wo_storeB (i := 0) (us := [_, _, _, _, _]) (l' := [_, _, _, _, _]) (H' := [_, _, _]) rfl rfl S5 rfl rfl rfl rfl sz59 rfl rfl rfl rfl ?_)
       intro w6 S6; clear S5
       refine wl_end rfl ?_
       refine nm_sub [(1, _), (2, _), (3, _), (4, _), (9, _), (10, _), (11, _), (12, _), (13, _)] ⟨rfl, rfl, rfl, rfl, rfl, rfl, rfl, rfl, rfl, trivial⟩ ?_
       refine nm_thn ?_
       refine ws_seqN counted_n49 counted_n50 rfl rfl rfl ?_
       refine ws_seqN counted_n51 counted_n52 rfl rfl rfl ?_
       refine ws_draw rfl (by kernel_rfl) S6 23 rfl ?_
       clear S6
       refine wa_takeP (i := 0) (d := 45) 22 rfl (by kernel_rfl) (by kernel_rfl) (by kernel_rfl) rfl rfl rfl (fun w7 => run_fieldAddr rfl rfl Try.underlying59 rfl (ce3) (nf3)) ?_
       refine wa_take (i := 1) (d := 46) 21 rfl (by kernel_rfl) (by kernel_rfl) (by kernel_rfl) rfl rfl rfl (fun M2 N2 w8 hle4 S8 => .inl (run_load1 rfl rfl Try.underlying3 rfl (S8.suf.boxc (i := 0) rfl rfl))) ?_
       refine wa_takeP (i := 2) (d := 47) 20 rfl (by kernel_rfl) (by kernel_rfl) (by kernel_rfl) rfl rfl rfl (fun w9 => run_move rfl rfl) ?_
       refine wa_takeP (i := 3) (d := 48) 19 rfl (by kernel_rfl) (by kernel_rfl) (by kernel_rfl) rfl rfl rfl (fun w10 => run_leq rfl rfl rfl) ?_
       refine wa_takeP (i := 4) (d := 49) 18 rfl (by kernel_rfl) (by kernel_rfl) (by kernel_rfl) rfl rfl rfl (fun w11 => run_move rfl rfl) ?_
       refine wa_split (t := 49) rfl (fun hg49 => ?_) (fun hg49 => ?_)
       ·replace hg49 := of_decide_eq_true hg49
        refine wa_takeP (i := 5) (d := 50) 17 rfl (by kernel_rfl) (by kernel_rfl) (by kernel_rfl) ⟨_, _, _, rfl, rfl, rfl, rfl⟩ rfl rfl (fun w12 => run_fieldAddr rfl rfl Try.underlying59 rfl (ce3) (nf3)) ?_
        refine wa_take (i := 6) (d := 51) 16 rfl (by kernel_rfl) (by kernel_rfl) (by kernel_rfl) ⟨_, _, _, rfl, rfl, rfl, rfl⟩ rfl rfl (fun M7 N7 w13 hle9 S13 => .inl (run_load1 rfl rfl Try.underlying3 rfl (S13.suf.boxc (i := 0) rfl rfl))) ?_
        refine wa_takeP (i := 7) (d := 52) 15 rfl (by kernel_rfl) (by kernel_rfl) (by kernel_rfl) ⟨_, _, _, rfl, rfl, rfl, rfl⟩ rfl rfl (fun w14 => run_move rfl rfl) ?_
        refine wa_takeP (i := 8) (d := 53) 14 rfl (by kernel_rfl) (by kernel_rfl) (by kernel_rfl) ⟨_, _, _, rfl, rfl, rfl, rfl⟩ rfl rfl (fun w15 => run_leq rfl rfl rfl) ?_
        refine wa_takeP (i := 9) (d := 54) 13 rfl (by kernel_rfl) (by kernel_rfl) (by kernel_rfl) rfl rfl rfl (fun w16 => run_pickT rfl rfl rfl) ?_
        refine wa_takeP (i := 10) (d := 55) 12 rfl (by kernel_rfl) (by kernel_rfl) (by kernel_rfl) rfl rfl rfl (fun w17 => run_move rfl rfl) ?_
        refine wa_split (t := 55) rfl (fun hg55 => ?_) (fun hg55 => ?_)
        ·replace hg55 := of_decide_eq_true hg55
         refine wa_takeP (i := 11) (d := 56) 11 rfl (by kernel_rfl) (by kernel_rfl) (by kernel_rfl) ⟨_, _, _, rfl, rfl, rfl, rfl⟩ rfl rfl (fun w18 => run_move rfl rfl) ?_
         refine wa_takeP (i := 12) (d := 57) 10 rfl (by kernel_rfl) (by kernel_rfl) (by kernel_rfl) ⟨_, _, _, rfl, rfl, rfl, rfl⟩ rfl rfl (fun w19 => run_fieldAddr rfl rfl Try.underlying59 rfl (ce3) (nf3)) ?_
         refine wa_take (i := 13) (d := 58) 9 rfl (by kernel_rfl) (by kernel_rfl) (by kernel_rfl) ⟨_, _, _, rfl, rfl, rfl, rfl⟩ rfl rfl (fun M14 N14 w20 hle16 S20 => .inl (run_load1 rfl rfl Try.underlying3 rfl (S20.suf.boxc (i := 0) rfl rfl))) ?_
         refine wa_take (i := 14) (d := 59) 8 rfl (by kernel_rfl) (by kernel_rfl) (by kernel_rfl) ⟨_, _, _, rfl, rfl, rfl, rfl⟩ rfl rfl (fun M15 N15 w21 hle17 S21 => .inl (run_indexR (C := cdInt) (i := 2) (((ga d.crs i).b).toNat) rfl rfl rfl sl33 S21.suf rfl (by first | rfl | omega) (by first | omega | (simp only [lens]; omega)))) ?_
         refine wa_take (i := 15) (d := 60) 7 rfl (by kernel_rfl) (by kernel_rfl) (by kernel_rfl) ⟨_, _, _, rfl, rfl, rfl, rfl⟩ rfl rfl (fun M16 N16 w22 hle18 S22 => .inl (run_load1 rfl rfl Try.underlying3 rfl (S22.suf.rowc (i := 2) (e := ((ga d.crs i).b).toNat) (j := 0) rfl (by first | omega | (simp only [lens]; omega)) rfl rfl))) ?_
         refine wa_takeP (i := 16) (d := 61) 6 rfl (by kernel_rfl) (by kernel_rfl) (by kernel_rfl) ⟨_, _, _, rfl, rfl, rfl, rfl⟩ rfl rfl (fun w23 => run_move rfl rfl) ?_
         refine wa_takeP (i := 17) (d := 62) 5 rfl (by kernel_rfl) (by kernel_rfl) (by kernel_rfl) ⟨_, _, _, rfl, rfl, rfl, rfl⟩ rfl rfl (fun w24 => run_fieldAddr rfl rfl Try.underlying59 rfl (ce3) (nf3)) ?_
         refine wa_take (i := 18) (d := 63) 4 rfl (by kernel_rfl) (by kernel_rfl) (by kernel_rfl) ⟨_, _, _, rfl, rfl, rfl, rfl⟩ rfl rfl (fun M19 N19 w25 hle21 S25 => .inl (run_load1 rfl rfl Try.underlying3 rfl (S25.suf.boxc (i := 0) rfl rfl))) ?_
         refine wa_take (i := 19) (d := 64) 3 rfl (by kernel_rfl) (by kernel_rfl) (by kernel_rfl) ⟨_, _, _, rfl, rfl, rfl, rfl⟩ rfl rfl (fun M20 N20 w26 hle22 S26 => .inl (run_indexR (C := cdInt) (i := 2) (((ga d.crs i).d).toNat) rfl rfl rfl sl33 S26.suf rfl (by first | rfl | omega) (by first | omega | (simp only [lens]; omega)))) ?_
         refine wa_take (i := 20) (d := 65) 2 rfl (by kernel_rfl) (by kernel_rfl) (by kernel_rfl) ⟨_, _, _, rfl, rfl, rfl, rfl⟩ rfl rfl (fun M21 N21 w27 hle23 S27 => .inl (run_load1 rfl rfl Try.underlying3 rfl (S27.suf.rowc (i := 2) (e := ((ga d.crs i).d).toNat) (j := 0) rfl (by first | omega | (simp only [lens]; omega)) rfl rfl))) ?_
         refine wa_takeP (i := 21) (d := 66) 1 rfl (by kernel_rfl) (by kernel_rfl) (by kernel_rfl) ⟨_, _, _, rfl, rfl, rfl, rfl⟩ rfl rfl (fun w28 => run_neq rfl rfl rfl) ?_
         refine wa_takeP (i := 22) (d := 67) 0 rfl (by kernel_rfl) (by kernel_rfl) (by kernel_rfl) rfl rfl rfl (fun w29 => run_pickT rfl rfl rfl) ?_
         refine wa_end (by kernel_rfl) (fun w30 S30 => ?_)
         refine nm_sub [(1, _), (2, _), (3, _), (4, _), (9, _), (10, _), (11, _), (12, _), (13, _), (67, _)] ⟨rfl, rfl, rfl, rfl, rfl, rfl, rfl, rfl, rfl, rfl, trivial⟩ ?_
         refine nm_thn ?_
         refine ws_condN counted_n53 counted_n54 rfl rfl rfl rfl (fun hb67 => ?_) (fun hb67 => ?_)
         ·replace hb67 := of_decide_eq_true hb67
          refine ws_region rfl ?_
          refine wla 0 1 rfl rfl rfl rfl rfl rfl rfl ?_
          refine wl_end rfl ?_
          refine nm_sub [(1, _), (2, _), (3, _), (4, _), (9, _), (10, _), (11, _), (12, _), (13, _)] ⟨rfl, rfl, rfl, rfl, rfl, rfl, rfl, rfl, rfl, trivial⟩ ?_
          refine nm_thn ?_
          refine ws_seqN counted_n55 counted_n56 rfl rfl rfl ?_
          refine ws_region rfl ?_
          refine wlo 0 1 rfl rfl rfl (wo_run rfl rfl (run_fieldAddr rfl rfl Try.underlying59 rfl (ce3) (nf3)) ?_)
          refine wlo 1 2 rfl rfl rfl (wo_run rfl rfl (run_load1 rfl rfl Try.underlying3 rfl (S30.boxc (i := 0) rfl rfl)) ?_)
          refine wlm 2 3 rfl rfl rfl rfl rfl rfl rfl ?_
          refine wlo 3 4 rfl rfl rfl (wo_run rfl rfl (run_leq rfl rfl rfl) ?_)
          refine wlm 4 5 rfl rfl rfl rfl rfl rfl rfl ?_
          refine wl_split (t := 72) rfl (fun hg72 => ?_) (fun hg72 => ?_)
          ·replace hg72 := of_decide_eq_true hg72
           refine wl_opG (k := 5) (k' := 6) rfl rfl ⟨_, _, _, rfl, rfl, rfl, rfl⟩ rfl (wo_run rfl rfl (run_fieldAddr rfl rfl Try.underlying59 rfl (ce3) (nf3)) ?_)
           refine wl_opG (k := 6) (k' := 7) rfl rfl ⟨_, _, _, rfl, rfl, rfl, rfl⟩ rfl (wo_run rfl rfl (run_load1 rfl rfl Try.underlying3 rfl (S30.boxc (i := 0) rfl rfl)) ?_)
           refine wl_opG (k := 7) (k' := 8) rfl rfl ⟨_, _, _, rfl, rfl, rfl, rfl⟩ rfl (wo_run rfl rfl (run_move rfl rfl) ?_)
           refine wl_opG (k := 8) (k' := 9) rfl rfl ⟨_, _, _, rfl, rfl, rfl, rfl⟩ rfl (wo_run rfl rfl (run_leq rfl rfl rfl) ?_)
           refine wlo 9 10 rfl rfl rfl (wo_run rfl rfl (run_pickT rfl rfl rfl) ?_)
           refine wlm 10 11 rfl rfl rfl rfl rfl rfl rfl ?_
           refine wl_split (t := 78) rfl (fun hg78 => ?_) (fun hg78 => ?_)
           ·replace hg78 := of_decide_eq_true hg78
            refine wl_opG (k := 11) (k' := 12) rfl rfl ⟨_, _, _, rfl, rfl, rfl, rfl⟩ rfl (wo_run rfl rfl (run_fieldAddr rfl rfl Try.underlying59 rfl (ce3) (nf3)) ?_)
            refine wl_opG (k := 12) (k' := 13) rfl rfl ⟨_, _, _, rfl, rfl, rfl, rfl⟩ rfl (wo_run rfl rfl (run_load1 rfl rfl Try.underlying3 rfl (S30.boxc (i := 0) rfl rfl)) ?_)
            refine wl_opG (k := 13) (k' := 14) rfl rfl ⟨_, _, _, rfl, rfl, rfl, rfl⟩ rfl (wo_run rfl rfl (run_move rfl rfl) ?_)
            refine wl_opG (k := 14) (k' := 15) rfl rfl ⟨_, _, _, rfl, rfl, rfl, rfl⟩ rfl (wo_run rfl rfl (run_leq rfl rfl rfl) ?_)
            refine wlo 15 16 rfl rfl rfl (wo_run rfl rfl (run_pickT rfl rfl rfl) ?_)
            refine wl_end rfl ?_
            refine nm_sub [(1, _), (2, _), (3, _), (4, _), (9, _), (10, _), (11, _), (12, _), (13, _), (83, _)] ⟨rfl, rfl, rfl, rfl, rfl, rfl, rfl, rfl, rfl, rfl, trivial⟩ ?_
            refine nm_thn ?_
            refine ws_condN counted_n57 counted_n58 rfl rfl rfl rfl (fun hb83 => ?_) (fun hb83 => ?_)
            ·replace hb83 := of_decide_eq_true hb83
             refine ws_seqN counted_n59 counted_n60 rfl rfl rfl ?_
             refine ws_draw rfl (by kernel_rfl) S30 12 rfl ?_
             clear S30
             refine wa_takeP (i := 0) (d := 84) 11 rfl (by kernel_rfl) (by kernel_rfl) (by kernel_rfl) rfl rfl rfl (fun w31 => run_move rfl rfl) ?_
             refine wa_takeP (i := 1) (d := 85) 10 rfl (by kernel_rfl) (by kernel_rfl) (by kernel_rfl) rfl rfl rfl (fun w32 => run_fieldAddr rfl rfl Try.underlying59 rfl (ce3) (nf3)) ?_
             refine wa_take (i := 2) (d := 86) 9 rfl (by kernel_rfl) (by kernel_rfl) (by kernel_rfl) rfl rfl rfl (fun M26 N26 w33 hle28 S33 => .inl (run_load1 rfl rfl Try.underlying3 rfl (S33.suf.boxc (i := 0) rfl rfl))) ?_
             refine wa_take (i := 3) (d := 87) 8 rfl (by kernel_rfl) (by kernel_rfl) (by kernel_rfl) rfl rfl rfl (fun M27 N27 w34 hle29 S34 => .inl (run_indexR (C := cdInt) (i := 2) (((ga d.crs i).a).toNat) rfl rfl rfl sl33 S34.suf rfl (by first | rfl | omega) (by first | omega | (simp only [lens]; omega)))) ?_
             refine wa_take (i := 4) (d := 88) 7 rfl (by kernel_rfl) (by kernel_rfl) (by kernel_rfl) rfl rfl rfl (fun M28 N28 w35 hle30 S35 => .inl (run_load1 rfl rfl Try.underlying3 rfl (S35.suf.rowc (i := 2) (e := ((ga d.crs i).a).toNat) (j := 0) rfl (by first | omega | (simp only [lens]; omega)) rfl rfl))) ?_
             refine wa_takeP (i := 5) (d := 89) 6 rfl (by kernel_rfl) (by kernel_rfl) (by kernel_rfl) rfl rfl rfl (fun w36 => run_move rfl rfl) ?_
             refine wa_takeP (i := 6) (d := 90) 5 rfl (by kernel_rfl) (by kernel_rfl) (by kernel_rfl) rfl rfl rfl (fun w37 => run_fieldAddr rfl rfl Try.underlying59 rfl (ce3) (nf3)) ?_
             refine wa_take (i := 7) (d := 91) 4 rfl (by kernel_rfl) (by kernel_rfl) (by kernel_rfl) rfl rfl rfl (fun M31 N31 w38 hle33 S38 => .inl (run_load1 rfl rfl Try.underlying3 rfl (S38.suf.boxc (i := 0) rfl rfl))) ?_
             refine wa_take (i := 8) (d := 92) 3 rfl (by kernel_rfl) (by kernel_rfl) (by kernel_rfl) rfl rfl rfl (fun M32 N32 w39 hle34 S39 => .inl (run_indexR (C := cdInt) (i := 2) (((ga d.crs i).c).toNat) rfl rfl rfl sl33 S39.suf rfl (by first | rfl | omega) (by first | omega | (simp only [lens]; omega)))) ?_
             refine wa_take (i := 9) (d := 93) 2 rfl (by kernel_rfl) (by kernel_rfl) (by kernel_rfl) rfl rfl rfl (fun M33 N33 w40 hle35 S40 => .inl (run_load1 rfl rfl Try.underlying3 rfl (S40.suf.rowc (i := 2) (e := ((ga d.crs i).c).toNat) (j := 0) rfl (by first | omega | (simp only [lens]; omega)) rfl rfl))) ?_
             refine wa_takeP (i := 10) (d := 14) 1 rfl (by kernel_rfl) (by kernel_rfl) (by kernel_rfl) rfl rfl rfl (fun w41 => run_assign rfl rfl) ?_
             refine wa_takeP (i := 11) (d := 15) 0 rfl (by kernel_rfl) (by kernel_rfl) (by kernel_rfl) rfl rfl rfl (fun w42 => run_assign rfl rfl) ?_
             refine wa_end (by kernel_rfl) (fun w43 S43 => ?_)
             refine nm_sub [(1, _), (2, _), (3, _), (4, _), (9, _), (10, _), (11, _), (12, _), (13, _), (14, _), (15, _)] ⟨rfl, rfl, rfl, rfl, rfl, rfl, rfl, rfl, rfl, rfl, rfl, trivial⟩ ?_
             refine nm_thn ?_
             refine ws_seqN counted_n61 counted_n62 rfl rfl rfl ?_
             refine ws_seqN counted_n63 counted_n64 rfl rfl rfl ?_
             refine ws_region rfl ?_
             refine wlo 0 1 rfl rfl rfl (wo_run rfl rfl (run_fieldAddr rfl rfl Try.underlying59 rfl (ce4) (nf4)) ?_)
             refine wlo 1 2 rfl rfl rfl (wo_run rfl rfl (run_load1 rfl rfl Try.underlying4 rfl (S43.boxc (i := 0) rfl rfl)) ?_)
             refine wlo 2 3 rfl rfl rfl (wo_run rfl rfl (run_not rfl rfl) ?_)
             refine wl_end rfl ?_
             refine nm_sub [(1, _), (2, _), (3, _), (4, _), (9, _), (10, _), (11, _), (12, _), (13, _), (14, _), (15, _), (96, _)] ⟨rfl, rfl, rfl, rfl, rfl, rfl, rfl, rfl, rfl, rfl, rfl, rfl, trivial⟩ ?_
             refine nm_thn ?_
             refine ws_condN counted_n65 counted_n66 rfl rfl rfl rfl (fun hb96 => ?_) (fun hb96 => ?_)
             ·simp only [Bool.and_eq_true, Bool.or_eq_true, Bool.and_eq_false_iff, Bool.or_eq_false_iff, decide_eq_true_eq, decide_eq_false_iff_not, Bool.not_eq_true', Bool.not_eq_false'] at hb96
              refine ws_draw rfl (by kernel_rfl) S43 12 rfl ?_
              clear S43
              refine wa_takeP (i := 0) (d := 97) 11 rfl (by kernel_rfl) (by kernel_rfl) (by kernel_rfl) rfl rfl rfl (fun w44 => run_move rfl rfl) ?_
              refine wa_takeP (i := 1) (d := 98) 10 rfl (by kernel_rfl) (by kernel_rfl) (by kernel_rfl) rfl rfl rfl (fun w45 => run_fieldAddr rfl rfl Try.underlying59 rfl (ce3) (nf3)) ?_
              refine wa_take (i := 2) (d := 99) 9 rfl (by kernel_rfl) (by kernel_rfl) (by kernel_rfl) rfl rfl rfl (fun M38 N38 w46 hle40 S46 => .inl (run_load1 rfl rfl Try.underlying3 rfl (S46.suf.boxc (i := 0) rfl rfl))) ?_
              refine wa_take (i := 3) (d := 100) 8 rfl (by kernel_rfl) (by kernel_rfl) (by kernel_rfl) rfl rfl rfl (fun M39 N39 w47 hle41 S47 => .inl (run_indexR (C := cdInt) (i := 2) (((ga d.crs i).c).toNat) rfl rfl rfl sl33 S47.suf rfl (by first | rfl | omega) (by first | omega | (simp only [lens]; omega)))) ?_
              refine wa_take (i := 4) (d := 101) 7 rfl (by kernel_rfl) (by kernel_rfl) (by kernel_rfl) rfl rfl rfl (fun M40 N40 w48 hle42 S48 => .inl (run_load1 rfl rfl Try.underlying3 rfl (S48.suf.rowc (i := 2) (e := ((ga d.crs i).c).toNat) (j := 0) rfl (by first | omega | (simp only [lens]; omega)) rfl rfl))) ?_
              refine wa_takeP (i := 5) (d := 102) 6 rfl (by kernel_rfl) (by kernel_rfl) (by kernel_rfl) rfl rfl rfl (fun w49 => run_move rfl rfl) ?_
              refine wa_takeP (i := 6) (d := 103) 5 rfl (by kernel_rfl) (by kernel_rfl) (by kernel_rfl) rfl rfl rfl (fun w50 => run_fieldAddr rfl rfl Try.underlying59 rfl (ce3) (nf3)) ?_
              refine wa_take (i := 7) (d := 104) 4 rfl (by kernel_rfl) (by kernel_rfl) (by kernel_rfl) rfl rfl rfl (fun M43 N43 w51 hle45 S51 => .inl (run_load1 rfl rfl Try.underlying3 rfl (S51.suf.boxc (i := 0) rfl rfl))) ?_
              refine wa_take (i := 8) (d := 105) 3 rfl (by kernel_rfl) (by kernel_rfl) (by kernel_rfl) rfl rfl rfl (fun M44 N44 w52 hle46 S52 => .inl (run_indexR (C := cdInt) (i := 2) (((ga d.crs i).a).toNat) rfl rfl rfl sl33 S52.suf rfl (by first | rfl | omega) (by first | omega | (simp only [lens]; omega)))) ?_
              refine wa_take (i := 9) (d := 106) 2 rfl (by kernel_rfl) (by kernel_rfl) (by kernel_rfl) rfl rfl rfl (fun M45 N45 w53 hle47 S53 => .inl (run_load1 rfl rfl Try.underlying3 rfl (S53.suf.rowc (i := 2) (e := ((ga d.crs i).a).toNat) (j := 0) rfl (by first | omega | (simp only [lens]; omega)) rfl rfl))) ?_
              refine wa_takeP (i := 10) (d := 14) 1 rfl (by kernel_rfl) (by kernel_rfl) (by kernel_rfl) rfl rfl rfl (fun w54 => run_assign rfl rfl) ?_
              refine wa_takeP (i := 11) (d := 15) 0 rfl (by kernel_rfl) (by kernel_rfl) (by kernel_rfl) rfl rfl rfl (fun w55 => run_assign rfl rfl) ?_
              refine wa_end (by kernel_rfl) (fun w56 S56 => ?_)
              refine nm_sub [(1, _), (2, _), (3, _), (4, _), (9, _), (10, _), (11, _), (12, _), (13, _), (14, _), (15, _)] ⟨rfl, rfl, rfl, rfl, rfl, rfl, rfl, rfl, rfl, rfl, rfl, trivial⟩ ?_
              refine nm_thn ?_
              refine ws_draw rfl (by kernel_rfl) S56 17 rfl ?_
              clear S56
              refine wa_takeP (i := 0) (d := 107) 16 rfl (by kernel_rfl) (by kernel_rfl) (by kernel_rfl) rfl rfl rfl (fun w57 => run_move rfl rfl) ?_
              refine wa_takeP (i := 1) (d := 108) 15 rfl (by kernel_rfl) (by kernel_rfl) (by kernel_rfl) rfl rfl rfl (fun w58 => run_move rfl rfl) ?_
              refine wa_no (i := 2) (d := 109) 14 rfl (by kernel_rfl) (by kernel_rfl) (by kernel_rfl) ⟨_, _, _, rfl, rfl, rfl, rfl⟩ rfl rfl ?_
              refine wa_no (i := 3) (d := 110) 13 rfl (by kernel_rfl) (by kernel_rfl) (by kernel_rfl) ⟨_, _, _, rfl, rfl, rfl, rfl⟩ rfl rfl ?_
              refine wa_no (i := 4) (d := 111) 12 rfl (by kernel_rfl) (by kernel_rfl) (by kernel_rfl) ⟨_, _, _, rfl, rfl, rfl, rfl⟩ rfl rfl ?_
              refine wa_no (i := 5) (d := 112) 11 rfl (by kernel_rfl) (by kernel_rfl) (by kernel_rfl) ⟨_, _, _, rfl, rfl, rfl, rfl⟩ rfl rfl ?_
              refine wa_no (i := 6) (d := 113) 10 rfl (by kernel_rfl) (by kernel_rfl) (by kernel_rfl) ⟨_, _, _, rfl, rfl, rfl, rfl⟩ rfl rfl ?_
              refine wa_no (i := 7) (d := 114) 9 rfl (by kernel_rfl) (by kernel_rfl) (by kernel_rfl) ⟨_, _, _, rfl, rfl, rfl, rfl⟩ rfl rfl ?_
              refine wa_no (i := 8) (d := 115) 8 rfl (by kernel_rfl) (by kernel_rfl) (by kernel_rfl) ⟨_, _, _, rfl, rfl, rfl, rfl⟩ rfl rfl ?_
              refine wa_no (i := 9) (d := 116) 7 rfl (by kernel_rfl) (by kernel_rfl) (by kernel_rfl) ⟨_, _, _, rfl, rfl, rfl, rfl⟩ rfl rfl ?_
              refine wa_no (i := 10) (d := 117) 6 rfl (by kernel_rfl) (by kernel_rfl) (by kernel_rfl) ⟨_, _, _, rfl, rfl, rfl, rfl⟩ rfl rfl ?_
              refine wa_no (i := 11) (d := 118) 5 rfl (by kernel_rfl) (by kernel_rfl) (by kernel_rfl) ⟨_, _, _, rfl, rfl, rfl, rfl⟩ rfl rfl ?_
              refine wa_no (i := 12) (d := 119) 4 rfl (by kernel_rfl) (by kernel_rfl) (by kernel_rfl) ⟨_, _, _, rfl, rfl, rfl, rfl⟩ rfl rfl ?_
              refine wa_no (i := 13) (d := 120) 3 rfl (by kernel_rfl) (by kernel_rfl) (by kernel_rfl) ⟨_, _, _, rfl, rfl, rfl, rfl⟩ rfl rfl ?_
              refine wa_no (i := 14) (d := 121) 2 rfl (by kernel_rfl) (by kernel_rfl) (by kernel_rfl) ⟨_, _, _, rfl, rfl, rfl, rfl⟩ rfl rfl ?_
              refine wa_takeP (i := 15) (d := 122) 1 rfl (by kernel_rfl) (by kernel_rfl) (by kernel_rfl) rfl rfl rfl (fun w59 => run_pickF rfl rfl rfl) ?_
              refine wa_takeP (i := 16) (d := 11) 0 rfl (by kernel_rfl) (by kernel_rfl) (by kernel_rfl) rfl rfl rfl (fun w60 => run_assign rfl rfl) ?_
              refine wa_end (by kernel_rfl) (fun w61 S61 => ?_)
              refine nm_blk ?_
              refine nm_sub [(1, _), (2, _), (3, _), (4, _), (9, _), (10, _), (11, _), (12, _)] ⟨rfl, rfl, rfl, rfl, rfl, rfl, rfl, rfl, trivial⟩ ?_
              refine nm_thn ?_
              refine ws_region rfl ?_
              refine wlm 0 1 rfl rfl rfl rfl rfl rfl rfl ?_
              refine wlo 1 2 rfl rfl rfl (wo_run rfl rfl (run_add rfl rfl rfl (by first | omega | (simp only [lens]; omega))) ?_)
              refine wla 2 3 rfl rfl rfl rfl rfl rfl rfl ?_
              refine wl_end rfl ?_
              refine nm_lp ?_
              intro ax_ hax_
              refine ⟨_, ?hq3m, ⟨i + 1, false, rfl, hax_.sub ⟨rfl, rfl, rfl, rfl, rfl, rfl, rfl, rfl, trivial⟩, S61.pick [1, 2] [_, _] (by decide) ⟨rfl, rfl, trivial⟩, ?hq3f0, ?hq3f1, ?hq3f2⟩⟩
              case hq3f0 => omega
              case hq3f1 => first | (intro h9; exact Bool.noConfusion h9) | (intro h9 j hj; by_cases e : j = i; (subst e; refine ⟨fun h1 h2 => ?_, fun h1 h2 h3 => ?_⟩; (unfold eB at h1 ⊢; unfold eD at h2 ⊢; omega); (unfold eA at h1 ⊢; unfold eB at h2 ⊢; unfold eC at h3 ⊢; first | omega | (have h8 := of_decide_eq_true h9; unfold q2; first | (rw [if_pos (by assumption)]; exact h8) | (rw [if_neg (by simp [*])]; exact h8)))); exact hok1 hb37 j (by omega))
              case hq3f2 => first | (intro h9; rw [hb37] at h9; cases h9; done) | (intro h9; exact Bool.noConfusion h9) | (intro _; exact ⟨i, by omega, fun hx => hb67 (hx.1 (by unfold eB; omega) (by unfold eD; omega))⟩) | (intro h9; refine ⟨i, by omega, fun hx => ?_⟩; have h8 := of_decide_eq_false h9; have h7 := hx.2 (by unfold eA; omega) (by unfold eB; omega) (by unfold eC; omega); unfold q2 eA eB eC at h7; first | (rw [if_pos (by assumption)] at h7; exact h8 h7) | (rw [if_neg (by assumption)] at h7; exact h8 h7) | (rw [if_neg (by clear h7 h8 hx; simp [*])] at h7; exact h8 h7))
              case hq3m => omega
             ·simp only [Bool.and_eq_true, Bool.or_eq_true, Bool.and_eq_false_iff, Bool.or_eq_false_iff, decide_eq_true_eq, decide_eq_false_iff_not, Bool.not_eq_true', Bool.not_eq_false'] at hb96
              refine ws_skip rfl ?_
              refine nm_sub [(1, _), (2, _), (3, _), (4, _), (9, _), (10, _), (11, _), (12, _), (13, _), (14, _), (15, _)] ⟨rfl, rfl, rfl, rfl, rfl, rfl, rfl, rfl, rfl, rfl, rfl, trivial⟩ ?_
              refine nm_thn ?_
              refine ws_draw rfl (by kernel_rfl) S43 17 rfl ?_
              clear S43
              refine wa_takeP (i := 0) (d := 107) 16 rfl (by kernel_rfl) (by kernel_rfl) (by kernel_rfl) rfl rfl rfl (fun w62 => run_move rfl rfl) ?_
              refine wa_takeP (i := 1) (d := 108) 15 rfl (by kernel_rfl) (by kernel_rfl) (by kernel_rfl) rfl rfl rfl (fun w63 => run_move rfl rfl) ?_
              refine wa_no (i := 2) (d := 109) 14 rfl (by kernel_rfl) (by kernel_rfl) (by kernel_rfl) ⟨_, _, _, rfl, rfl, rfl, rfl⟩ rfl rfl ?_
              refine wa_no (i := 3) (d := 110) 13 rfl (by kernel_rfl) (by kernel_rfl) (by kernel_rfl) ⟨_, _, _, rfl, rfl, rfl, rfl⟩ rfl rfl ?_
              refine wa_no (i := 4) (d := 111) 12 rfl (by kernel_rfl) (by kernel_rfl) (by kernel_rfl) ⟨_, _, _, rfl, rfl, rfl, rfl⟩ rfl rfl ?_
              refine wa_no (i := 5) (d := 112) 11 rfl (by kernel_rfl) (by kernel_rfl) (by kernel_rfl) ⟨_, _, _, rfl, rfl, rfl, rfl⟩ rfl rfl ?_
              refine wa_no (i := 6) (d := 113) 10 rfl (by kernel_rfl) (by kernel_rfl) (by kernel_rfl) ⟨_, _, _, rfl, rfl, rfl, rfl⟩ rfl rfl ?_
              refine wa_no (i := 7) (d := 114) 9 rfl (by kernel_rfl) (by kernel_rfl) (by kernel_rfl) ⟨_, _, _, rfl, rfl, rfl, rfl⟩ rfl rfl ?_
              refine wa_no (i := 8) (d := 115) 8 rfl (by kernel_rfl) (by kernel_rfl) (by kernel_rfl) ⟨_, _, _, rfl, rfl, rfl, rfl⟩ rfl rfl ?_
              refine wa_no (i := 9) (d := 116) 7 rfl (by kernel_rfl) (by kernel_rfl) (by kernel_rfl) ⟨_, _, _, rfl, rfl, rfl, rfl⟩ rfl rfl ?_
              refine wa_no (i := 10) (d := 117) 6 rfl (by kernel_rfl) (by kernel_rfl) (by kernel_rfl) ⟨_, _, _, rfl, rfl, rfl, rfl⟩ rfl rfl ?_
              refine wa_no (i := 11) (d := 118) 5 rfl (by kernel_rfl) (by kernel_rfl) (by kernel_rfl) ⟨_, _, _, rfl, rfl, rfl, rfl⟩ rfl rfl ?_
              refine wa_no (i := 12) (d := 119) 4 rfl (by kernel_rfl) (by kernel_rfl) (by kernel_rfl) ⟨_, _, _, rfl, rfl, rfl, rfl⟩ rfl rfl ?_
              refine wa_no (i := 13) (d := 120) 3 rfl (by kernel_rfl) (by kernel_rfl) (by kernel_rfl) ⟨_, _, _, rfl, rfl, rfl, rfl⟩ rfl rfl ?_
              refine wa_no (i := 14) (d := 121) 2 rfl (by kernel_rfl) (by kernel_rfl) (by kernel_rfl) ⟨_, _, _, rfl, rfl, rfl, rfl⟩ rfl rfl ?_
              refine wa_takeP (i := 15) (d := 122) 1 rfl (by kernel_rfl) (by kernel_rfl) (by kernel_rfl) rfl rfl rfl (fun w64 => run_pickF rfl rfl rfl) ?_
              refine wa_takeP (i := 16) (d := 11) 0 rfl (by kernel_rfl) (by kernel_rfl) (by kernel_rfl) rfl rfl rfl (fun w65 => run_assign rfl rfl) ?_
              refine wa_end (by kernel_rfl) (fun w66 S66 => ?_)
              refine nm_blk ?_
              refine nm_sub [(1, _), (2, _), (3, _), (4, _), (9, _), (10, _), (11, _), (12, _)] ⟨rfl, rfl, rfl, rfl, rfl, rfl, rfl, rfl, trivial⟩ ?_
              refine nm_thn ?_
              refine ws_region rfl ?_
              refine wlm 0 1 rfl rfl rfl rfl rfl rfl rfl ?_
              refine wlo 1 2 rfl rfl rfl (wo_run rfl rfl (run_add rfl rfl rfl (by first | omega | (simp only [lens]; omega))) ?_)
              refine wla 2 3 rfl rfl rfl rfl rfl rfl rfl ?_
              refine wl_end rfl ?_
              refine nm_lp ?_
              intro ax_ hax_
              refine ⟨_, ?hq4m, ⟨i + 1, false, rfl, hax_.sub ⟨rfl, rfl, rfl, rfl, rfl, rfl, rfl, rfl, trivial⟩, S66.pick [1, 2] [_, _] (by decide) ⟨rfl, rfl, trivial⟩, ?hq4f0, ?hq4f1, ?hq4f2⟩⟩
              case hq4f0 => omega
              case hq4f1 => first | (intro h9; exact Bool.noConfusion h9) | (intro h9 j hj; by_cases e : j = i; (subst e; refine ⟨fun h1 h2 => ?_, fun h1 h2 h3 => ?_⟩; (unfold eB at h1 ⊢; unfold eD at h2 ⊢; omega); (unfold eA at h1 ⊢; unfold eB at h2 ⊢; unfold eC at h3 ⊢; first | omega | (have h8 := of_decide_eq_true h9; unfold q2; first | (rw [if_pos (by assumption)]; exact h8) | (rw [if_neg (by simp [*])]; exact h8)))); exact hok1 hb37 j (by omega))
              case hq4f2 => first | (intro h9; rw [hb37] at h9; cases h9; done) | (intro h9; exact Bool.noConfusion h9) | (intro _; exact ⟨i, by omega, fun hx => hb67 (hx.1 (by unfold eB; omega) (by unfold eD; omega))⟩) | (intro h9; refine ⟨i, by omega, fun hx => ?_⟩; have h8 := of_decide_eq_false h9; have h7 := hx.2 (by unfold eA; omega) (by unfold eB; omega) (by unfold eC; omega); unfold q2 eA eB eC at h7; first | (rw [if_pos (by assumption)] at h7; exact h8 h7) | (rw [if_neg (by assumption)] at h7; exact h8 h7) | (rw [if_neg (by clear h7 h8 hx; simp [*])] at h7; exact h8 h7))
              case hq4m => omega
            ·replace hb83 := of_decide_eq_false hb83
             refine ws_skip rfl ?_
             refine nm_blk ?_
             refine nm_sub [(1, _), (2, _), (3, _), (4, _), (9, _), (10, _), (11, _), (12, _)] ⟨rfl, rfl, rfl, rfl, rfl, rfl, rfl, rfl, trivial⟩ ?_
             refine nm_thn ?_
             refine ws_region rfl ?_
             refine wlm 0 1 rfl rfl rfl rfl rfl rfl rfl ?_
             refine wlo 1 2 rfl rfl rfl (wo_run rfl rfl (run_add rfl rfl rfl (by first | omega | (simp only [lens]; omega))) ?_)
             refine wla 2 3 rfl rfl rfl rfl rfl rfl rfl ?_
             refine wl_end rfl ?_
             refine nm_lp ?_
             intro ax_ hax_
             refine ⟨_, ?hq5m, ⟨i + 1, false, rfl, hax_.sub ⟨rfl, rfl, rfl, rfl, rfl, rfl, rfl, rfl, trivial⟩, S30.pick [1, 2] [_, _] (by decide) ⟨rfl, rfl, trivial⟩, ?hq5f0, ?hq5f1, ?hq5f2⟩⟩
             case hq5f0 => omega
             case hq5f1 => first | (intro h9; exact Bool.noConfusion h9) | (intro h9 j hj; by_cases e : j = i; (subst e; refine ⟨fun h1 h2 => ?_, fun h1 h2 h3 => ?_⟩; (unfold eB at h1 ⊢; unfold eD at h2 ⊢; omega); (unfold eA at h1 ⊢; unfold eB at h2 ⊢; unfold eC at h3 ⊢; first | omega | (have h8 := of_decide_eq_true h9; unfold q2; first | (rw [if_pos (by assumption)]; exact h8) | (rw [if_neg (by simp [*])]; exact h8)))); exact hok1 hb37 j (by omega))
             case hq5f2 => first | (intro h9; rw [hb37] at h9; cases h9; done) | (intro h9; exact Bool.noConfusion h9) | (intro _; exact ⟨i, by omega, fun hx => hb67 (hx.1 (by unfold eB; omega) (by unfold eD; omega))⟩) | (intro h9; refine ⟨i, by omega, fun hx => ?_⟩; have h8 := of_decide_eq_false h9; have h7 := hx.2 (by unfold eA; omega) (by unfold eB; omega) (by unfold eC; omega); unfold q2 eA eB eC at h7; first | (rw [if_pos (by assumption)] at h7; exact h8 h7) | (rw [if_neg (by assumption)] at h7; exact h8 h7) | (rw [if_neg (by clear h7 h8 hx; simp [*])] at h7; exact h8 h7))
             case hq5m => omega
           ·replace hg78 := of_decide_eq_false hg78
            refine wl_no (k := 11) (k' := 12) (d := 79) rfl rfl ⟨_, _, _, rfl, rfl, rfl, rfl⟩ rfl rfl ?_
            refine wl_no (k := 12) (k' := 13) (d := 80) rfl rfl ⟨_, _, _, rfl, rfl, rfl, rfl⟩ rfl rfl ?_
            refine wl_no (k := 13) (k' := 14) (d := 81) rfl rfl ⟨_, _, _, rfl, rfl, rfl, rfl⟩ rfl rfl ?_
            refine wl_no (k := 14) (k' := 15) (d := 82) rfl rfl ⟨_, _, _, rfl, rfl, rfl, rfl⟩ rfl rfl ?_
            refine wlo 15 16 rfl rfl rfl (wo_run rfl rfl (run_pickF rfl rfl rfl) ?_)
            refine wl_end rfl ?_
            refine nm_sub [(1, _), (2, _), (3, _), (4, _), (9, _), (10, _), (11, _), (12, _), (13, _), (83, _)] ⟨rfl, rfl, rfl, rfl, rfl, rfl, rfl, rfl, rfl, rfl, trivial⟩ ?_
            refine nm_thn ?_
            refine ws_condFN counted_n58 rfl rfl rfl ?_
            refine ws_skip rfl ?_
            refine nm_blk ?_
            refine nm_sub [(1, _), (2, _), (3, _), (4, _), (9, _), (10, _), (11, _), (12, _)] ⟨rfl, rfl, rfl, rfl, rfl, rfl, rfl, rfl, trivial⟩ ?_
            refine nm_thn ?_
            refine ws_region rfl ?_
            refine wlm 0 1 rfl rfl rfl rfl rfl rfl rfl ?_
            refine wlo 1 2 rfl rfl rfl (wo_run rfl rfl (run_add rfl rfl rfl (by first | omega | (simp only [lens]; omega))) ?_)
            refine wla 2 3 rfl rfl rfl rfl rfl rfl rfl ?_
            refine wl_end rfl ?_
            refine nm_lp ?_
            intro ax_ hax_
            refine ⟨_, ?hq6m, ⟨i + 1, false, rfl, hax_.sub ⟨rfl, rfl, rfl, rfl, rfl, rfl, rfl, rfl, trivial⟩, S30.pick [1, 2] [_, _] (by decide) ⟨rfl, rfl, trivial⟩, ?hq6f0, ?hq6f1, ?hq6f2⟩⟩
            case hq6f0 => omega
            case hq6f1 => first | (intro h9; exact Bool.noConfusion h9) | (intro h9 j hj; by_cases e : j = i; (subst e; refine ⟨fun h1 h2 => ?_, fun h1 h2 h3 => ?_⟩; (unfold eB at h1 ⊢; unfold eD at h2 ⊢; omega); (unfold eA at h1 ⊢; unfold eB at h2 ⊢; unfold eC at h3 ⊢; first | omega | (have h8 := of_decide_eq_true h9; unfold q2; first | (rw [if_pos (by assumption)]; exact h8) | (rw [if_neg (by simp [*])]; exact h8)))); exact hok1 hb37 j (by omega))
            case hq6f2 => first | (intro h9; rw [hb37] at h9; cases h9; done) | (intro h9; exact Bool.noConfusion h9) | (intro _; exact ⟨i, by omega, fun hx => hb67 (hx.1 (by unfold eB; omega) (by unfold eD; omega))⟩) | (intro h9; refine ⟨i, by omega, fun hx => ?_⟩; have h8 := of_decide_eq_false h9; have h7 := hx.2 (by unfold eA; omega) (by unfold eB; omega) (by unfold eC; omega); unfold q2 eA eB eC at h7; first | (rw [if_pos (by assumption)] at h7; exact h8 h7) | (rw [if_neg (by assumption)] at h7; exact h8 h7) | (rw [if_neg (by clear h7 h8 hx; simp [*])] at h7; exact h8 h7))
            case hq6m => omega
          ·replace hg72 := of_decide_eq_false hg72
           refine wl_no (k := 5) (k' := 6) (d := 73) rfl rfl ⟨_, _, _, rfl, rfl, rfl, rfl⟩ rfl rfl ?_
           refine wl_no (k := 6) (k' := 7) (d := 74) rfl rfl ⟨_, _, _, rfl, rfl, rfl, rfl⟩ rfl rfl ?_
           refine wl_no (k := 7) (k' := 8) (d := 75) rfl rfl ⟨_, _, _, rfl, rfl, rfl, rfl⟩ rfl rfl ?_
           refine wl_no (k := 8) (k' := 9) (d := 76) rfl rfl ⟨_, _, _, rfl, rfl, rfl, rfl⟩ rfl rfl ?_
           refine wlo 9 10 rfl rfl rfl (wo_run rfl rfl (run_pickF rfl rfl rfl) ?_)
           refine wlm 10 11 rfl rfl rfl rfl rfl rfl rfl ?_
           refine wl_no (k := 11) (k' := 12) (d := 79) rfl rfl ⟨_, _, _, rfl, rfl, rfl, rfl⟩ rfl rfl ?_
           refine wl_no (k := 12) (k' := 13) (d := 80) rfl rfl ⟨_, _, _, rfl, rfl, rfl, rfl⟩ rfl rfl ?_
           refine wl_no (k := 13) (k' := 14) (d := 81) rfl rfl ⟨_, _, _, rfl, rfl, rfl, rfl⟩ rfl rfl ?_
           refine wl_no (k := 14) (k' := 15) (d := 82) rfl rfl ⟨_, _, _, rfl, rfl, rfl, rfl⟩ rfl rfl ?_
           refine wlo 15 16 rfl rfl rfl (wo_run rfl rfl (run_pickF rfl rfl rfl) ?_)
           refine wl_end rfl ?_
           refine nm_sub [(1, _), (2, _), (3, _), (4, _), (9, _), (10, _), (11, _), (12, _), (13, _), (83, _)] ⟨rfl, rfl, rfl, rfl, rfl, rfl, rfl, rfl, rfl, rfl, trivial⟩ ?_
           refine nm_thn ?_
           refine ws_condFN counted_n58 rfl rfl rfl ?_
           refine ws_skip rfl ?_
           refine nm_blk ?_
           refine nm_sub [(1, _), (2, _), (3, _), (4, _), (9, _), (10, _), (11, _), (12, _)] ⟨rfl, rfl, rfl, rfl, rfl, rfl, rfl, rfl, trivial⟩ ?_
           refine nm_thn ?_
           refine ws_region rfl ?_
           refine wlm 0 1 rfl rfl rfl rfl rfl rfl rfl ?_
           refine wlo 1 2 rfl rfl rfl (wo_run rfl rfl (run_add rfl rfl rfl (by first | omega | (simp only [lens]; omega))) ?_)
           refine wla 2 3 rfl rfl rfl rfl rfl rfl rfl ?_
           refine wl_end rfl ?_
           refine nm_lp ?_
           intro ax_ hax_
           refine ⟨_, ?hq7m, ⟨i + 1, false, rfl, hax_.sub ⟨rfl, rfl, rfl, rfl, rfl, rfl, rfl, rfl, trivial⟩, S30.pick [1, 2] [_, _] (by decide) ⟨rfl, rfl, trivial⟩, ?hq7f0, ?hq7f1, ?hq7f2⟩⟩
           case hq7f0 => omega
           case hq7f1 => first | (intro h9; exact Bool.noConfusion h9) | (intro h9 j hj; by_cases e : j = i; (subst e; refine ⟨fun h1 h2 => ?_, fun h1 h2 h3 => ?_⟩; (unfold eB at h1 ⊢; unfold eD at h2 ⊢; omega); (unfold eA at h1 ⊢; unfold eB at h2 ⊢; unfold eC at h3 ⊢; first | omega | (have h8 := of_decide_eq_true h9; unfold q2; first | (rw [if_pos (by assumption)]; exact h8) | (rw [if_neg (by simp [*])]; exact h8)))); exact hok1 hb37 j (by omega))
           case hq7f2 => first | (intro h9; rw [hb37] at h9; cases h9; done) | (intro h9; exact Bool.noConfusion h9) | (intro _; exact ⟨i, by omega, fun hx => hb67 (hx.1 (by unfold eB; omega) (by unfold eD; omega))⟩) | (intro h9; refine ⟨i, by omega, fun hx => ?_⟩; have h8 := of_decide_eq_false h9; have h7 := hx.2 (by unfold eA; omega) (by unfold eB; omega) (by unfold eC; omega); unfold q2 eA eB eC at h7; first | (rw [if_pos (by assumption)] at h7; exact h8 h7) | (rw [if_neg (by assumption)] at h7; exact h8 h7) | (rw [if_neg (by clear h7 h8 hx; simp [*])] at h7; exact h8 h7))
           case hq7m => omega
         ·replace hb67 := of_decide_eq_false hb67
          refine ws_skip rfl ?_
          refine nm_sub [(1, _), (2, _), (3, _), (4, _), (9, _), (10, _), (11, _), (12, _), (13, _)] ⟨rfl, rfl, rfl, rfl, rfl, rfl, rfl, rfl, rfl, trivial⟩ ?_
          refine nm_thn ?_
          refine ws_seqN counted_n55 counted_n56 rfl rfl rfl ?_
          refine ws_region rfl ?_
          refine wlo 0 1 rfl rfl rfl (wo_run rfl rfl (run_fieldAddr rfl rfl Try.underlying59 rfl (ce3) (nf3)) ?_)
          refine wlo 1 2 rfl rfl rfl (wo_run rfl rfl (run_load1 rfl rfl Try.underlying3 rfl (S30.boxc (i := 0) rfl rfl)) ?_)
          refine wlm 2 3 rfl rfl rfl rfl rfl rfl rfl ?_
          refine wlo 3 4 rfl rfl rfl (wo_run rfl rfl (run_leq rfl rfl rfl) ?_)
          refine wlm 4 5 rfl rfl rfl rfl rfl rfl rfl ?_
          refine wl_split (t := 72) rfl (fun hg72 => ?_) (fun hg72 => ?_)
          ·replace hg72 := of_decide_eq_true hg72
           refine wl_opG (k := 5) (k' := 6) rfl rfl ⟨_, _, _, rfl, rfl, rfl, rfl⟩ rfl (wo_run rfl rfl (run_fieldAddr rfl rfl Try.underlying59 rfl (ce3) (nf3)) ?_)
           refine wl_opG (k := 6) (k' := 7) rfl rfl ⟨_, _, _, rfl, rfl, rfl, rfl⟩ rfl (wo_run rfl rfl (run_load1 rfl rfl Try.underlying3 rfl (S30.boxc (i := 0) rfl rfl)) ?_)
           refine wl_opG (k := 7) (k' := 8) rfl rfl ⟨_, _, _, rfl, rfl, rfl, rfl⟩ rfl (wo_run rfl rfl (run_move rfl rfl) ?_)
           refine wl_opG (k := 8) (k' := 9) rfl rfl ⟨_, _, _, rfl, rfl, rfl, rfl⟩ rfl (wo_run rfl rfl (run_leq rfl rfl rfl) ?_)
           refine wlo 9 10 rfl rfl rfl (wo_run rfl rfl (run_pickT rfl rfl rfl) ?_)
           refine wlm 10 11 rfl rfl rfl rfl rfl rfl rfl ?_
           refine wl_split (t := 78) rfl (fun hg78 => ?_) (fun hg78 => ?_)
           ·replace hg78 := of_decide_eq_true hg78
            refine wl_opG (k := 11) (k' := 12) rfl rfl ⟨_, _, _, rfl, rfl, rfl, rfl⟩ rfl (wo_run rfl rfl (run_fieldAddr rfl rfl Try.underlying59 rfl (ce3) (nf3)) ?_)
            refine wl_opG (k := 12) (k' := 13) rfl rfl ⟨_, _, _, rfl, rfl, rfl, rfl⟩ rfl (wo_run rfl rfl (run_load1 rfl rfl Try.underlying3 rfl (S30.boxc (i := 0) rfl rfl)) ?_)
            refine wl_opG (k := 13) (k' := 14) rfl rfl ⟨_, _, _, rfl, rfl, rfl, rfl⟩ rfl (wo_run rfl rfl (run_move rfl rfl) ?_)
            refine wl_opG (k := 14) (k' := 15) rfl rfl ⟨_, _, _, rfl, rfl, rfl, rfl⟩ rfl (wo_run rfl rfl (run_leq rfl rfl rfl) ?_)
            refine wlo 15 16 rfl rfl rfl (wo_run rfl rfl (run_pickT rfl rfl rfl) ?_)
            refine wl_end rfl ?_
            refine nm_sub [(1, _), (2, _), (3, _), (4, _), (9, _), (10, _), (11, _), (12, _), (13, _), (83, _)] ⟨rfl, rfl, rfl, rfl, rfl, rfl, rfl, rfl, rfl, rfl, trivial⟩ ?_
            refine nm_thn ?_
            refine ws_condN counted_n57 counted_n58 rfl rfl rfl rfl (fun hb83 => ?_) (fun hb83 => ?_)
            ·replace hb83 := of_decide_eq_true hb83
             refine ws_seqN counted_n59 counted_n60 rfl rfl rfl ?_
             refine ws_draw rfl (by kernel_rfl) S30 12 rfl ?_
             clear S30
             refine wa_takeP (i := 0) (d := 84) 11 rfl (by kernel_rfl) (by kernel_rfl) (by kernel_rfl) rfl rfl rfl (fun w67 => run_move rfl rfl) ?_
             refine wa_takeP (i := 1) (d := 85) 10 rfl (by kernel_rfl) (by kernel_rfl) (by kernel_rfl) rfl rfl rfl (fun w68 => run_fieldAddr rfl rfl Try.underlying59 rfl (ce3) (nf3)) ?_
             refine wa_take (i := 2) (d := 86) 9 rfl (by kernel_rfl) (by kernel_rfl) (by kernel_rfl) rfl rfl rfl (fun M58 N58 w69 hle60 S69 => .inl (run_load1 rfl rfl Try.underlying3 rfl (S69.suf.boxc (i := 0) rfl rfl))) ?_
             refine wa_take (i := 3) (d := 87) 8 rfl (by kernel_rfl) (by kernel_rfl) (by kernel_rfl) rfl rfl rfl (fun M59 N59 w70 hle61 S70 => .inl (run_indexR (C := cdInt) (i := 2) (((ga d.crs i).a).toNat) rfl rfl rfl sl33 S70.suf rfl (by first | rfl | omega) (by first | omega | (simp only [lens]; omega)))) ?_
             refine wa_take (i := 4) (d := 88) 7 rfl (by kernel_rfl) (by kernel_rfl) (by kernel_rfl) rfl rfl rfl (fun M60 N60 w71 hle62 S71 => .inl (run_load1 rfl rfl Try.underlying3 rfl (S71.suf.rowc (i := 2) (e := ((ga d.crs i).a).toNat) (j := 0) rfl (by first | omega | (simp only [lens]; omega)) rfl rfl))) ?_
             refine wa_takeP (i := 5) (d := 89) 6 rfl (by kernel_rfl) (by kernel_rfl) (by kernel_rfl) rfl rfl rfl (fun w72 => run_move rfl rfl) ?_
             refine wa_takeP (i := 6) (d := 90) 5 rfl (by kernel_rfl) (by kernel_rfl) (by kernel_rfl) rfl rfl rfl (fun w73 => run_fieldAddr rfl rfl Try.underlying59 rfl (ce3) (nf3)) ?_
             refine wa_take (i := 7) (d := 91) 4 rfl (by kernel_rfl) (by kernel_rfl) (by kernel_rfl) rfl rfl rfl (fun M63 N63 w74 hle65 S74 => .inl (run_load1 rfl rfl Try.underlying3 rfl (S74.suf.boxc (i := 0) rfl rfl))) ?_
             refine wa_take (i := 8) (d := 92) 3 rfl (by kernel_rfl) (by kernel_rfl) (by kernel_rfl) rfl rfl rfl (fun M64 N64 w75 hle66 S75 => .inl (run_indexR (C := cdInt) (i := 2) (((ga d.crs i).c).toNat) rfl rfl rfl sl33 S75.suf rfl (by first | rfl | omega) (by first | omega | (simp only [lens]; omega)))) ?_
             refine wa_take (i := 9) (d := 93) 2 rfl (by kernel_rfl) (by kernel_rfl) (by kernel_rfl) rfl rfl rfl (fun M65 N65 w76 hle67 S76 => .inl (run_load1 rfl rfl Try.underlying3 rfl (S76.suf.rowc (i := 2) (e := ((ga d.crs i).c).toNat) (j := 0) rfl (by first | omega | (simp only [lens]; omega)) rfl rfl))) ?_
             refine wa_takeP (i := 10) (d := 14) 1 rfl (by kernel_rfl) (by kernel_rfl) (by kernel_rfl) rfl rfl rfl (fun w77 => run_assign rfl rfl) ?_
             refine wa_takeP (i := 11) (d := 15) 0 rfl (by kernel_rfl) (by kernel_rfl) (by kernel_rfl) rfl rfl rfl (fun w78 => run_assign rfl rfl) ?_
             refine wa_end (by kernel_rfl) (fun w79 S79 => ?_)
             refine nm_sub [(1, _), (2, _), (3, _), (4, _), (9, _), (10, _), (11, _), (12, _), (13, _), (14, _), (15, _)] ⟨rfl, rfl, rfl, rfl, rfl, rfl, rfl, rfl, rfl, rfl, rfl, trivial⟩ ?_
             refine nm_thn ?_
             refine ws_seqN counted_n61 counted_n62 rfl rfl rfl ?_
             refine ws_seqN counted_n63 counted_n64 rfl rfl rfl ?_
             refine ws_region rfl ?_
             refine wlo 0 1 rfl rfl rfl (wo_run rfl rfl (run_fieldAddr rfl rfl Try.underlying59 rfl (ce4) (nf4)) ?_)
             refine wlo 1 2 rfl rfl rfl (wo_run rfl rfl (run_load1 rfl rfl Try.underlying4 rfl (S79.boxc (i := 0) rfl rfl)) ?_)
             refine wlo 2 3 rfl rfl rfl (wo_run rfl rfl (run_not rfl rfl) ?_)
             refine wl_end rfl ?_
             refine nm_sub [(1, _), (2, _), (3, _), (4, _), (9, _), (10, _), (11, _), (12, _), (13, _), (14, _), (15, _), (96, _)] ⟨rfl, rfl, rfl, rfl, rfl, rfl, rfl, rfl, rfl, rfl, rfl, rfl, trivial⟩ ?_
             refine nm_thn ?_
             refine ws_condN counted_n65 counted_n66 rfl rfl rfl rfl (fun hb96 => ?_) (fun hb96 => ?_)
             ·simp only [Bool.and_eq_true, Bool.or_eq_true, Bool.and_eq_false_iff, Bool.or_eq_false_iff, decide_eq_true_eq, decide_eq_false_iff_not, Bool.not_eq_true', Bool.not_eq_false'] at hb96
              refine ws_draw rfl (by kernel_rfl) S79 12 rfl ?_
              clear S79
              refine wa_takeP (i := 0) (d := 97) 11 rfl (by kernel_rfl) (by kernel_rfl) (by kernel_rfl) rfl rfl rfl (fun w80 => run_move rfl rfl) ?_
              refine wa_takeP (i := 1) (d := 98) 10 rfl (by kernel_rfl) (by kernel_rfl) (by kernel_rfl) rfl rfl rfl (fun w81 => run_fieldAddr rfl rfl Try.underlying59 rfl (ce3) (nf3)) ?_
              refine wa_take (i := 2) (d := 99) 9 rfl (by kernel_rfl) (by kernel_rfl) (by kernel_rfl) rfl rfl rfl (fun M70 N70 w82 hle72 S82 => .inl (run_load1 rfl rfl Try.underlying3 rfl (S82.suf.boxc (i := 0) rfl rfl))) ?_
              refine wa_take (i := 3) (d := 100) 8 rfl (by kernel_rfl) (by kernel_rfl) (by kernel_rfl) rfl rfl rfl (fun M71 N71 w83 hle73 S83 => .inl (run_indexR (C := cdInt) (i := 2) (((ga d.crs i).c).toNat) rfl rfl rfl sl33 S83.suf rfl (by first | rfl | omega) (by first | omega | (simp only [lens]; omega)))) ?_
              refine wa_take (i := 4) (d := 101) 7 rfl (by kernel_rfl) (by kernel_rfl) (by kernel_rfl) rfl rfl rfl (fun M72 N72 w84 hle74 S84 => .inl (run_load1 rfl rfl Try.underlying3 rfl (S84.suf.rowc (i := 2) (e := ((ga d.crs i).c).toNat) (j := 0) rfl (by first | omega | (simp only [lens]; omega)) rfl rfl))) ?_
              refine wa_takeP (i := 5) (d := 102) 6 rfl (by kernel_rfl) (by kernel_rfl) (by kernel_rfl) rfl rfl rfl (fun w85 => run_move rfl rfl) ?_
              refine wa_takeP (i := 6) (d := 103) 5 rfl (by kernel_rfl) (by kernel_rfl) (by kernel_rfl) rfl rfl rfl (fun w86 => run_fieldAddr rfl rfl Try.underlying59 rfl (ce3) (nf3)) ?_
              refine wa_take (i := 7) (d := 104) 4 rfl (by kernel_rfl) (by kernel_rfl) (by kernel_rfl) rfl rfl rfl (fun M75 N75 w87 hle77 S87 => .inl (run_load1 rfl rfl Try.underlying3 rfl (S87.suf.boxc (i := 0) rfl rfl))) ?_
              refine wa_take (i := 8) (d := 105) 3 rfl (by kernel_rfl) (by kernel_rfl) (by kernel_rfl) rfl rfl rfl (fun M76 N76 w88 hle78 S88 => .inl (run_indexR (C := cdInt) (i := 2) (((ga d.crs i).a).toNat) rfl rfl rfl sl33 S88.suf rfl (by first | rfl | omega) (by first | omega | (simp only [lens]; omega)))) ?_
              refine wa_take (i := 9) (d := 106) 2 rfl (by kernel_rfl) (by kernel_rfl) (by kernel_rfl) rfl rfl rfl (fun M77 N77 w89 hle79 S89 => .inl (run_load1 rfl rfl Try.underlying3 rfl (S89.suf.rowc (i := 2) (e := ((ga d.crs i).a).toNat) (j := 0) rfl (by first | omega | (simp only [lens]; omega)) rfl rfl))) ?_
              refine wa_takeP (i := 10) (d := 14) 1 rfl (by kernel_rfl) (by kernel_rfl) (by kernel_rfl) rfl rfl rfl (fun w90 => run_assign rfl rfl) ?_
              refine wa_takeP (i := 11) (d := 15) 0 rfl (by kernel_rfl) (by kernel_rfl) (by kernel_rfl) rfl rfl rfl (fun w91 => run_assign rfl rfl) ?_
              refine wa_end (by kernel_rfl) (fun w92 S92 => ?_)
              refine nm_sub [(1, _), (2, _), (3, _), (4, _), (9, _), (10, _), (11, _), (12, _), (13, _), (14, _), (15, _)] ⟨rfl, rfl, rfl, rfl, rfl, rfl, rfl, rfl, rfl, rfl, rfl, trivial⟩ ?_
              refine nm_thn ?_
              refine ws_draw rfl (by kernel_rfl) S92 17 rfl ?_
              clear S92
              refine wa_takeP (i := 0) (d := 107) 16 rfl (by kernel_rfl) (by kernel_rfl) (by kernel_rfl) rfl rfl rfl (fun w93 => run_move rfl rfl) ?_
              refine wa_takeP (i := 1) (d := 108) 15 rfl (by kernel_rfl) (by kernel_rfl) (by kernel_rfl) rfl rfl rfl (fun w94 => run_move rfl rfl) ?_
              refine wa_split (t := 108) rfl (fun hg108 => ?_) (fun hg108 => ?_)
              ·refine wa_takeP (i := 2) (d := 109) 14 rfl (by kernel_rfl) (by kernel_rfl) (by kernel_rfl) ⟨_, _, _, rfl, rfl, rfl, rfl⟩ rfl rfl (fun w95 => run_move rfl rfl) ?_
               refine wa_takeP (i := 3) (d := 110) 13 rfl (by kernel_rfl) (by kernel_rfl) (by kernel_rfl) ⟨_, _, _, rfl, rfl, rfl, rfl⟩ rfl rfl (fun w96 => run_move rfl rfl) ?_
               refine wa_take (i := 4) (d := 111) 12 rfl (by kernel_rfl) (by kernel_rfl) (by kernel_rfl) ⟨_, _, _, rfl, rfl, rfl, rfl⟩ rfl rfl (fun M84 N84 w97 hle86 S97 => .inl (run_indexM (C := (cdV 33)) ((ga l2 (((ga d.crs i).c).toNat)).toNat) rfl rfl rfl sl34 (by first | rfl | omega) (hq.mono (Hp.un_mono hle86 S97.mx)) (by first | omega | (simp only [lens]; omega)))) ?_
               obtain ⟨hn1, hr1⟩ := hdq.2 ((ga l2 (((ga d.crs i).c).toNat)).toNat) (by first | omega | (simp only [lens]; omega))
               have rmhr1 : (ga q ((ga l2 (((ga d.crs i).c).toNat)).toNat)).length * 8 ≤ 140737488355328 := hr1.room
               refine wa_take (i := 5) (d := 112) 11 rfl (by kernel_rfl) (by kernel_rfl) (by kernel_rfl) ⟨_, _, _, rfl, rfl, rfl, rfl⟩ rfl rfl (fun M85 N85 w98 hle87 S98 => .inl (run_load1 rfl rfl Try.underlying33 rfl ((hq.mono (Hp.un_mono hle87 S98.mx)).cell S98.um (i := (ga l2 (((ga d.crs i).c).toNat)).toNat) (by first | omega | (simp only [lens]; omega)) 0 rfl (congrArg (fun n => some (Value.slice _ n _)) hn1)))) ?_
               refine wa_takeP (i := 6) (d := 113) 10 rfl (by kernel_rfl) (by kernel_rfl) (by kernel_rfl) ⟨_, _, _, rfl, rfl, rfl, rfl⟩ rfl rfl (fun w99 => run_move rfl rfl) ?_
               refine wa_takeP (i := 7) (d := 114) 9 rfl (by kernel_rfl) (by kernel_rfl) (by kernel_rfl) ⟨_, _, _, rfl, rfl, rfl, rfl⟩ rfl rfl (fun w100 => run_fieldAddr rfl rfl Try.underlying59 rfl (ce3) (nf3)) ?_
               refine wa_take (i := 8) (d := 115) 8 rfl (by kernel_rfl) (by kernel_rfl) (by kernel_rfl) ⟨_, _, _, rfl, rfl, rfl, rfl⟩ rfl rfl (fun M88 N88 w101 hle90 S101 => .inl (run_load1 rfl rfl Try.underlying3 rfl (S101.suf.boxc (i := 0) rfl rfl))) ?_
               refine wa_take (i := 9) (d := 116) 7 rfl (by kernel_rfl) (by kernel_rfl) (by kernel_rfl) ⟨_, _, _, rfl, rfl, rfl, rfl⟩ rfl rfl (fun M89 N89 w102 hle91 S102 => .inl (run_indexR (C := cdInt) (i := 2) (((ga d.crs i).b).toNat) rfl rfl rfl sl33 S102.suf rfl (by first | rfl | omega) (by first | omega | (simp only [lens]; omega)))) ?_
               refine wa_take (i := 10) (d := 117) 6 rfl (by kernel_rfl) (by kernel_rfl) (by kernel_rfl) ⟨_, _, _, rfl, rfl, rfl, rfl⟩ rfl rfl (fun M90 N90 w103 hle92 S103 => .inl (run_load1 rfl rfl Try.underlying3 rfl (S103.suf.rowc (i := 2) (e := ((ga d.crs i).b).toNat) (j := 0) rfl (by first | omega | (simp only [lens]; omega)) rfl rfl))) ?_
               refine wa_take (i := 11) (d := 118) 5 rfl (by kernel_rfl) (by kernel_rfl) (by kernel_rfl) ⟨_, _, _, rfl, rfl, rfl, rfl⟩ rfl rfl (fun M91 N91 w104 hle93 S104 => .inl (run_indexM (C := cdInt) ((ga l2 (((ga d.crs i).b).toNat)).toNat) rfl rfl rfl sl33 (by first | rfl | omega) (hr1.mono (Hp.un_mono hle93 S104.mx)) (by first | omega | (simp only [lens]; omega)))) ?_
               refine wa_take (i := 12) (d := 119) 4 rfl (by kernel_rfl) (by kernel_rfl) (by kernel_rfl) ⟨_, _, _, rfl, rfl, rfl, rfl⟩ rfl rfl (fun M92 N92 w105 hle94 S105 => .inl (run_load1 rfl rfl Try.underlying3 rfl ((hr1.mono (Hp.un_mono hle94 S105.mx)).cell S105.um (i := (ga l2 (((ga d.crs i).b).toNat)).toNat) (by first | omega | (simp only [lens]; omega)) 0 rfl rfl))) ?_
               refine wa_takeP (i := 13) (d := 120) 3 rfl (by kernel_rfl) (by kernel_rfl) (by kernel_rfl) ⟨_, _, _, rfl, rfl, rfl, rfl⟩ rfl rfl (fun w106 => run_move rfl rfl) ?_
               refine wa_takeP (i := 14) (d := 121) 2 rfl (by kernel_rfl) (by kernel_rfl) (by kernel_rfl) ⟨_, _, _, rfl, rfl, rfl, rfl⟩ rfl rfl (fun w107 => run_eql rfl rfl rfl) ?_
               refine wa_takeP (i := 15) (d := 122) 1 rfl (by kernel_rfl) (by kernel_rfl) (by kernel_rfl) rfl rfl rfl (fun w108 => run_pickT rfl rfl rfl) ?_
               refine wa_takeP (i := 16) (d := 11) 0 rfl (by kernel_rfl) (by kernel_rfl) (by kernel_rfl) rfl rfl rfl (fun w109 => run_assign rfl rfl) ?_
               refine wa_end (by kernel_rfl) (fun w110 S110 => ?_)
               refine nm_blk ?_
               refine nm_sub [(1, _), (2, _), (3, _), (4, _), (9, _), (10, _), (11, _), (12, _)] ⟨rfl, rfl, rfl, rfl, rfl, rfl, rfl, rfl, trivial⟩ ?_
               refine nm_thn ?_
               refine ws_region rfl ?_
               refine wlm 0 1 rfl rfl rfl rfl rfl rfl rfl ?_
               refine wlo 1 2 rfl rfl rfl (wo_run rfl rfl (run_add rfl rfl rfl (by first | omega | (simp only [lens]; omega))) ?_)
               refine wla 2 3 rfl rfl rfl rfl rfl rfl rfl ?_
               refine wl_end rfl ?_
               refine nm_lp ?_
               intro ax_ hax_
               refine ⟨_, ?hq8m, ⟨i + 1, decide ((ga (ga q ((ga l2 (((ga d.crs i).c).toNat)).toNat)) ((ga l2 (((ga d.crs i).b).toNat)).toNat)) = (ga l2 (((ga d.crs i).a).toNat))), rfl, hax_.sub ⟨rfl, rfl, rfl, rfl, rfl, rfl, rfl, rfl, trivial⟩, S110.pick [1, 2] [_, _] (by decide) ⟨rfl, rfl, trivial⟩, ?hq8f0, ?hq8f1, ?hq8f2⟩⟩
               case hq8f0 => omega
               case hq8f1 => first | (intro h9; exact Bool.noConfusion h9) | (intro h9 j hj; by_cases e : j = i; (subst e; refine ⟨fun h1 h2 => ?_, fun h1 h2 h3 => ?_⟩; (unfold eB at h1 ⊢; unfold eD at h2 ⊢; omega); (unfold eA at h1 ⊢; unfold eB at h2 ⊢; unfold eC at h3 ⊢; first | omega | (have h8 := of_decide_eq_true h9; unfold q2; first | (rw [if_pos (by assumption)]; exact h8) | (rw [if_neg (by simp [*])]; exact h8)))); exact hok1 hb37 j (by omega))
               case hq8f2 => first | (intro h9; rw [hb37] at h9; cases h9; done) | (intro h9; exact Bool.noConfusion h9) | (intro _; exact ⟨i, by omega, fun hx => hb67 (hx.1 (by unfold eB; omega) (by unfold eD; omega))⟩) | (intro h9; refine ⟨i, by omega, fun hx => ?_⟩; have h8 := of_decide_eq_false h9; have h7 := hx.2 (by unfold eA; omega) (by unfold eB; omega) (by unfold eC; omega); unfold q2 eA eB eC at h7; first | (rw [if_pos (by assumption)] at h7; exact h8 h7) | (rw [if_neg (by assumption)] at h7; exact h8 h7) | (rw [if_neg (by clear h7 h8 hx; simp [*])] at h7; exact h8 h7))
               case hq8m => omega
              ·exfalso; (rw [hb37] at hg108; cases hg108)
             ·simp only [Bool.and_eq_true, Bool.or_eq_true, Bool.and_eq_false_iff, Bool.or_eq_false_iff, decide_eq_true_eq, decide_eq_false_iff_not, Bool.not_eq_true', Bool.not_eq_false'] at hb96
              refine ws_skip rfl ?_
              refine nm_sub [(1, _), (2, _), (3, _), (4, _), (9, _), (10, _), (11, _), (12, _), (13, _), (14, _), (15, _)] ⟨rfl, rfl, rfl, rfl, rfl, rfl, rfl, rfl, rfl, rfl, rfl, trivial⟩ ?_
              refine nm_thn ?_
              refine ws_draw rfl (by kernel_rfl) S79 17 rfl ?_
              clear S79
              refine wa_takeP (i := 0) (d := 107) 16 rfl (by kernel_rfl) (by kernel_rfl) (by kernel_rfl) rfl rfl rfl (fun w111 => run_move rfl rfl) ?_
              refine wa_takeP (i := 1) (d := 108) 15 rfl (by kernel_rfl) (by kernel_rfl) (by kernel_rfl) rfl rfl rfl (fun w112 => run_move rfl rfl) ?_
              refine wa_split (t := 108) rfl (fun hg108 => ?_) (fun hg108 => ?_)
              ·refine wa_takeP (i := 2) (d := 109) 14 rfl (by kernel_rfl) (by kernel_rfl) (by kernel_rfl) ⟨_, _, _, rfl, rfl, rfl, rfl⟩ rfl rfl (fun w113 => run_move rfl rfl) ?_
               refine wa_takeP (i := 3) (d := 110) 13 rfl (by kernel_rfl) (by kernel_rfl) (by kernel_rfl) ⟨_, _, _, rfl, rfl, rfl, rfl⟩ rfl rfl (fun w114 => run_move rfl rfl) ?_
               refine wa_take (i := 4) (d := 111) 12 rfl (by kernel_rfl) (by kernel_rfl) (by kernel_rfl) ⟨_, _, _, rfl, rfl, rfl, rfl⟩ rfl rfl (fun M101 N101 w115 hle103 S115 => .inl (run_indexM (C := (cdV 33)) ((ga l2 (((ga d.crs i).a).toNat)).toNat) rfl rfl rfl sl34 (by first | rfl | omega) (hq.mono (Hp.un_mono hle103 S115.mx)) (by first | omega | (simp only [lens]; omega)))) ?_
               obtain ⟨hn2, hr2⟩ := hdq.2 ((ga l2 (((ga d.crs i).a).toNat)).toNat) (by first | omega | (simp only [lens]; omega))
               have rmhr2 : (ga q ((ga l2 (((ga d.crs i).a).toNat)).toNat)).length * 8 ≤ 140737488355328 := hr2.room
               refine wa_take (i := 5) (d := 112) 11 rfl (by kernel_rfl) (by kernel_rfl) (by kernel_rfl) ⟨_, _, _, rfl, rfl, rfl, rfl⟩ rfl rfl (fun M102 N102 w116 hle104 S116 => .inl (run_load1 rfl rfl Try.underlying33 rfl ((hq.mono (Hp.un_mono hle104 S116.mx)).cell S116.um (i := (ga l2 (((ga d.crs i).a).toNat)).toNat) (by first | omega | (simp only [lens]; omega)) 0 rfl (congrArg (fun n => some (Value.slice _ n _)) hn2)))) ?_
               refine wa_takeP (i := 6) (d := 113) 10 rfl (by kernel_rfl) (by kernel_rfl) (by kernel_rfl) ⟨_, _, _, rfl, rfl, rfl, rfl⟩ rfl rfl (fun w117 => run_move rfl rfl) ?_
               refine wa_takeP (i := 7) (d := 114) 9 rfl (by kernel_rfl) (by kernel_rfl) (by kernel_rfl) ⟨_, _, _, rfl, rfl, rfl, rfl⟩ rfl rfl (fun w118 => run_fieldAddr rfl rfl Try.underlying59 rfl (ce3) (nf3)) ?_
               refine wa_take (i := 8) (d := 115) 8 rfl (by kernel_rfl) (by kernel_rfl) (by kernel_rfl) ⟨_, _, _, rfl, rfl, rfl, rfl⟩ rfl rfl (fun M105 N105 w119 hle107 S119 => .inl (run_load1 rfl rfl Try.underlying3 rfl (S119.suf.boxc (i := 0) rfl rfl))) ?_
               refine wa_take (i := 9) (d := 116) 7 rfl (by kernel_rfl) (by kernel_rfl) (by kernel_rfl) ⟨_, _, _, rfl, rfl, rfl, rfl⟩ rfl rfl (fun M106 N106 w120 hle108 S120 => .inl (run_indexR (C := cdInt) (i := 2) (((ga d.crs i).b).toNat) rfl rfl rfl sl33 S120.suf rfl (by first | rfl | omega) (by first | omega | (simp only [lens]; omega)))) ?_
               refine wa_take (i := 10) (d := 117) 6 rfl (by kernel_rfl) (by kernel_rfl) (by kernel_rfl) ⟨_, _, _, rfl, rfl, rfl, rfl⟩ rfl rfl (fun M107 N107 w121 hle109 S121 => .inl (run_load1 rfl rfl Try.underlying3 rfl (S121.suf.rowc (i := 2) (e := ((ga d.crs i).b).toNat) (j := 0) rfl (by first | omega | (simp only [lens]; omega)) rfl rfl))) ?_
               refine wa_take (i := 11) (d := 118) 5 rfl (by kernel_rfl) (by kernel_rfl) (by kernel_rfl) ⟨_, _, _, rfl, rfl, rfl, rfl⟩ rfl rfl (fun M108 N108 w122 hle110 S122 => .inl (run_indexM (C := cdInt) ((ga l2 (((ga d.crs i).b).toNat)).toNat) rfl rfl rfl sl33 (by first | rfl | omega) (hr2.mono (Hp.un_mono hle110 S122.mx)) (by first | omega | (simp only [lens]; omega)))) ?_
               refine wa_take (i := 12) (d := 119) 4 rfl (by kernel_rfl) (by kernel_rfl) (by kernel_rfl) ⟨_, _, _, rfl, rfl, rfl, rfl⟩ rfl rfl (fun M109 N109 w123 hle111 S123 => .inl (run_load1 rfl rfl Try.underlying3 rfl ((hr2.mono (Hp.un_mono hle111 S123.mx)).cell S123.um (i := (ga l2 (((ga d.crs i).b).toNat)).toNat) (by first | omega | (simp only [lens]; omega)) 0 rfl rfl))) ?_
               refine wa_takeP (i := 13) (d := 120) 3 rfl (by kernel_rfl) (by kernel_rfl) (by kernel_rfl) ⟨_, _, _, rfl, rfl, rfl, rfl⟩ rfl rfl (fun w124 => run_move rfl rfl) ?_
               refine wa_takeP (i := 14) (d := 121) 2 rfl (by kernel_rfl) (by kernel_rfl) (by kernel_rfl) ⟨_, _, _, rfl, rfl, rfl, rfl⟩ rfl rfl (fun w125 => run_eql rfl rfl rfl) ?_
               refine wa_takeP (i := 15) (d := 122) 1 rfl (by kernel_rfl) (by kernel_rfl) (by kernel_rfl) rfl rfl rfl (fun w126 => run_pickT rfl rfl rfl) ?_
               refine wa_takeP (i := 16) (d := 11) 0 rfl (by kernel_rfl) (by kernel_rfl) (by kernel_rfl) rfl rfl rfl (fun w127 => run_assign rfl rfl) ?_
               refine wa_end (by kernel_rfl) (fun w128 S128 => ?_)
               refine nm_blk ?_
               refine nm_sub [(1, _), (2, _), (3, _), (4, _), (9, _), (10, _), (11, _), (12, _)] ⟨rfl, rfl, rfl, rfl, rfl, rfl, rfl, rfl, trivial⟩ ?_
               refine nm_thn ?_
               refine ws_region rfl ?_
               refine wlm 0 1 rfl rfl rfl rfl rfl rfl rfl ?_
               refine wlo 1 2 rfl rfl rfl (wo_run rfl rfl (run_add rfl rfl rfl (by first | omega | (simp only [lens]; omega))) ?_)
               refine wla 2 3 rfl rfl rfl rfl rfl rfl rfl ?_
               refine wl_end rfl ?_
               refine nm_lp ?_
               intro ax_ hax_
               refine ⟨_, ?hq9m, ⟨i + 1, decide ((ga (ga q ((ga l2 (((ga d.crs i).a).toNat)).toNat)) ((ga l2 (((ga d.crs i).b).toNat)).toNat)) = (ga l2 (((ga d.crs i).c).toNat))), rfl, hax_.sub ⟨rfl, rfl, rfl, rfl, rfl, rfl, rfl, rfl, trivial⟩, S128.pick [1, 2] [_, _] (by decide) ⟨rfl, rfl, trivial⟩, ?hq9f0, ?hq9f1, ?hq9f2⟩⟩
               case hq9f0 => omega
               case hq9f1 => first | (intro h9; exact Bool.noConfusion h9) | (intro h9 j hj; by_cases e : j = i; (subst e; refine ⟨fun h1 h2 => ?_, fun h1 h2 h3 => ?_⟩; (unfold eB at h1 ⊢; unfold eD at h2 ⊢; omega); (unfold eA at h1 ⊢; unfold eB at h2 ⊢; unfold eC at h3 ⊢; first | omega | (have h8 := of_decide_eq_true h9; unfold q2; first | (rw [if_pos (by assumption)]; exact h8) | (rw [if_neg (by simp [*])]; exact h8)))); exact hok1 hb37 j (by omega))
               case hq9f2 => first | (intro h9; rw [hb37] at h9; cases h9; done) | (intro h9; exact Bool.noConfusion h9) | (intro _; exact ⟨i, by omega, fun hx => hb67 (hx.1 (by unfold eB; omega) (by unfold eD; omega))⟩) | (intro h9; refine ⟨i, by omega, fun hx => ?_⟩; have h8 := of_decide_eq_false h9; have h7 := hx.2 (by unfold eA; omega) (by unfold eB; omega) (by unfold eC; omega); unfold q2 eA eB eC at h7; first | (rw [if_pos (by assumption)] at h7; exact h8 h7) | (rw [if_neg (by assumption)] at h7; exact h8 h7) | (rw [if_neg (by clear h7 h8 hx; simp [*])] at h7; exact h8 h7))
               case hq9m => omega
              ·exfalso; (rw [hb37] at hg108; cases hg108)
            ·replace hb83 := of_decide_eq_false hb83
             refine ws_skip rfl ?_
             refine nm_blk ?_
             refine nm_sub [(1, _), (2, _), (3, _), (4, _), (9, _), (10, _), (11, _), (12, _)] ⟨rfl, rfl, rfl, rfl, rfl, rfl, rfl, rfl, trivial⟩ ?_
             refine nm_thn ?_
             refine ws_region rfl ?_
             refine wlm 0 1 rfl rfl rfl rfl rfl rfl rfl ?_
             refine wlo 1 2 rfl rfl rfl (wo_run rfl rfl (run_add rfl rfl rfl (by first | omega | (simp only [lens]; omega))) ?_)
             refine wla 2 3 rfl rfl rfl rfl rfl rfl rfl ?_
             refine wl_end rfl ?_
             refine nm_lp ?_
             intro ax_ hax_
             refine ⟨_, ?hq10m, ⟨i + 1, ok, rfl, hax_.sub ⟨rfl, rfl, rfl, rfl, rfl, rfl, rfl, rfl, trivial⟩, S30.pick [1, 2] [_, _] (by decide) ⟨rfl, rfl, trivial⟩, ?hq10f0, ?hq10f1, ?hq10f2⟩⟩
             case hq10f0 => omega
             case hq10f1 => first | (intro h9; exact Bool.noConfusion h9) | (intro h9 j hj; by_cases e : j = i; (subst e; refine ⟨fun h1 h2 => ?_, fun h1 h2 h3 => ?_⟩; (unfold eB at h1 ⊢; unfold eD at h2 ⊢; omega); (unfold eA at h1 ⊢; unfold eB at h2 ⊢; unfold eC at h3 ⊢; first | omega | (have h8 := of_decide_eq_true h9; unfold q2; first | (rw [if_pos (by assumption)]; exact h8) | (rw [if_neg (by simp [*])]; exact h8)))); exact hok1 hb37 j (by omega))
             case hq10f2 => first | (intro h9; rw [hb37] at h9; cases h9; done) | (intro h9; exact Bool.noConfusion h9) | (intro _; exact ⟨i, by omega, fun hx => hb67 (hx.1 (by unfold eB; omega) (by unfold eD; omega))⟩) | (intro h9; refine ⟨i, by omega, fun hx => ?_⟩; have h8 := of_decide_eq_false h9; have h7 := hx.2 (by unfold eA; omega) (by unfold eB; omega) (by unfold eC; omega); unfold q2 eA eB eC at h7; first | (rw [if_pos (by assumption)] at h7; exact h8 h7) | (rw [if_neg (by assumption)] at h7; exact h8 h7) | (rw [if_neg (by clear h7 h8 hx; simp [*])] at h7; exact h8 h7))
             case hq10m => omega
           ·replace hg78 := of_decide_eq_false hg78
            refine wl_no (k := 11) (k' := 12) (d := 79) rfl rfl ⟨_, _, _, rfl, rfl, rfl, rfl⟩ rfl rfl ?_
            refine wl_no (k := 12) (k' := 13) (d := 80) rfl rfl ⟨_, _, _, rfl, rfl, rfl, rfl⟩ rfl rfl ?_
            refine wl_no (k := 13) (k' := 14) (d := 81) rfl rfl ⟨_, _, _, rfl, rfl, rfl, rfl⟩ rfl rfl ?_
            refine wl_no (k := 14) (k' := 15) (d := 82) rfl rfl ⟨_, _, _, rfl, rfl, rfl, rfl⟩ rfl rfl ?_
            refine wlo 15 16 rfl rfl rfl (wo_run rfl rfl (run_pickF rfl rfl rfl) ?_)
            refine wl_end rfl ?_
            refine nm_sub [(1, _), (2, _), (3, _), (4, _), (9, _), (10, _), (11, _), (12, _), (13, _), (83, _)] ⟨rfl, rfl, rfl, rfl, rfl, rfl, rfl, rfl, rfl, rfl, trivial⟩ ?_
            refine nm_thn ?_
            refine ws_condFN counted_n58 rfl rfl rfl ?_
            refine ws_skip rfl ?_
            refine nm_blk ?_
            refine nm_sub [(1, _), (2, _), (3, _), (4, _), (9, _), (10, _), (11, _), (12, _)] ⟨rfl, rfl, rfl, rfl, rfl, rfl, rfl, rfl, trivial⟩ ?_
            refine nm_thn ?_
            refine ws_region rfl ?_
            refine wlm 0 1 rfl rfl rfl rfl rfl rfl rfl ?_
            refine wlo 1 2 rfl rfl rfl (wo_run rfl rfl (run_add rfl rfl rfl (by first | omega | (simp only [lens]; omega))) ?_)
            refine wla 2 3 rfl rfl rfl rfl rfl rfl rfl ?_
            refine wl_end rfl ?_
            refine nm_lp ?_
            intro ax_ hax_
            refine ⟨_, ?hq11m, ⟨i + 1, ok, rfl, hax_.sub ⟨rfl, rfl, rfl, rfl, rfl, rfl, rfl, rfl, trivial⟩, S30.pick [1, 2] [_, _] (by decide) ⟨rfl, rfl, trivial⟩, ?hq11f0, ?hq11f1, ?hq11f2⟩⟩
            case hq11f0 => omega
            case hq11f1 => first | (intro h9; exact Bool.noConfusion h9) | (intro h9 j hj; by_cases e : j = i; (subst e; refine ⟨fun h1 h2 => ?_, fun h1 h2 h3 => ?_⟩; (unfold eB at h1 ⊢; unfold eD at h2 ⊢; omega); (unfold eA at h1 ⊢; unfold eB at h2 ⊢; unfold eC at h3 ⊢; first | omega | (have h8 := of_decide_eq_true h9; unfold q2; first | (rw [if_pos (by assumption)]; exact h8) | (rw [if_neg (by simp [*])]; exact h8)))); exact hok1 hb37 j (by omega))
            case hq11f2 => first | (intro h9; rw [hb37] at h9; cases h9; done) | (intro h9; exact Bool.noConfusion h9) | (intro _; exact ⟨i, by omega, fun hx => hb67 (hx.1 (by unfold eB; omega) (by unfold eD; omega))⟩) | (intro h9; refine ⟨i, by omega, fun hx => ?_⟩; have h8 := of_decide_eq_false h9; have h7 := hx.2 (by unfold eA; omega) (by unfold eB; omega) (by unfold eC; omega); unfold q2 eA eB eC at h7; first | (rw [if_pos (by assumption)] at h7; exact h8 h7) | (rw [if_neg (by assumption)] at h7; exact h8 h7) | (rw [if_neg (by clear h7 h8 hx; simp [*])] at h7; exact h8 h7))
            case hq11m => omega
          ·replace hg72 := of_decide_eq_false hg72
           refine wl_no (k := 5) (k' := 6) (d := 73) rfl rfl ⟨_, _, _, rfl, rfl, rfl, rfl⟩ rfl rfl ?_
           refine wl_no (k := 6) (k' := 7) (d := 74) rfl rfl ⟨_, _, _, rfl, rfl, rfl, rfl⟩ rfl rfl ?_
           refine wl_no (k := 7) (k' := 8) (d := 75) rfl rfl ⟨_, _, _, rfl, rfl, rfl, rfl⟩ rfl rfl ?_
           refine wl_no (k := 8) (k' := 9) (d := 76) rfl rfl ⟨_, _, _, rfl, rfl, rfl, rfl⟩ rfl rfl ?_
           refine wlo 9 10 rfl rfl rfl (wo_run rfl rfl (run_pickF rfl rfl rfl) ?_)
           refine wlm 10 11 rfl rfl rfl rfl rfl rfl rfl ?_
           refine wl_no (k := 11) (k' := 12) (d := 79) rfl rfl ⟨_, _, _, rfl, rfl, rfl, rfl⟩ rfl rfl ?_
           refine wl_no (k := 12) (k' := 13) (d := 80) rfl rfl ⟨_, _, _, rfl, rfl, rfl, rfl⟩ rfl rfl ?_
           refine wl_no (k := 13) (k' := 14) (d := 81) rfl rfl ⟨_, _, _, rfl, rfl, rfl, rfl⟩ rfl rfl ?_
           refine wl_no (k := 14) (k' := 15) (d := 82) rfl rfl ⟨_, _, _, rfl, rfl, rfl, rfl⟩ rfl rfl ?_
           refine wlo 15 16 rfl rfl rfl (wo_run rfl rfl (run_pickF rfl rfl rfl) ?_)
           refine wl_end rfl ?_
           refine nm_sub [(1, _), (2, _), (3, _), (4, _), (9, _), (10, _), (11, _), (12, _), (13, _), (83, _)] ⟨rfl, rfl, rfl, rfl, rfl, rfl, rfl, rfl, rfl, rfl, trivial⟩ ?_
           refine nm_thn ?_
           refine ws_condFN counted_n58 rfl rfl rfl ?_
           refine ws_skip rfl ?_
           refine nm_blk ?_
           refine nm_sub [(1, _), (2, _), (3, _), (4, _), (9, _), (10, _), (11, _), (12, _)] ⟨rfl, rfl, rfl, rfl, rfl, rfl, rfl, rfl, trivial⟩ ?_
           refine nm_thn ?_
           refine ws_region rfl ?_
           refine wlm 0 1 rfl rfl rfl rfl rfl rfl rfl ?_
           refine wlo 1 2 rfl rfl rfl (wo_run rfl rfl (run_add rfl rfl rfl (by first | omega | (simp only [lens]; omega))) ?_)
           refine wla 2 3 rfl rfl rfl rfl rfl rfl rfl ?_
           refine wl_end rfl ?_
           refine nm_lp ?_
           intro ax_ hax_
           refine ⟨_, ?hq12m, ⟨i + 1, ok, rfl, hax_.sub ⟨rfl, rfl, rfl, rfl, rfl, rfl, rfl, rfl, trivial⟩, S30.pick [1, 2] [_, _] (by decide) ⟨rfl, rfl, trivial⟩, ?hq12f0, ?hq12f1, ?hq12f2⟩⟩
           case hq12f0 => omega
           case hq12f1 => first | (intro h9; exact Bool.noConfusion h9) | (intro h9 j hj; by_cases e : j = i; (subst e; refine ⟨fun h1 h2 => ?_, fun h1 h2 h3 => ?_⟩; (unfold eB at h1 ⊢; unfold eD at h2 ⊢; omega); (unfold eA at h1 ⊢; unfold eB at h2 ⊢; unfold eC at h3 ⊢; first | omega | (have h8 := of_decide_eq_true h9; unfold q2; first | (rw [if_pos (by assumption)]; exact h8) | (rw [if_neg (by simp [*])]; exact h8)))); exact hok1 hb37 j (by omega))
           case hq12f2 => first | (intro h9; rw [hb37] at h9; cases h9; done) | (intro h9; exact Bool.noConfusion h9) | (intro _; exact ⟨i, by omega, fun hx => hb67 (hx.1 (by unfold eB; omega) (by unfold eD; omega))⟩) | (intro h9; refine ⟨i, by omega, fun hx => ?_⟩; have h8 := of_decide_eq_false h9; have h7 := hx.2 (by unfold eA; omega) (by unfold eB; omega) (by unfold eC; omega); unfold q2 eA eB eC at h7; first | (rw [if_pos (by assumption)] at h7; exact h8 h7) | (rw [if_neg (by assumption)] at h7; exact h8 h7) | (rw [if_neg (by clear h7 h8 hx; simp [*])] at h7; exact h8 h7))
           case hq12m => omega
        ·replace hg55 := of_decide_eq_false hg55
         refine wa_no (i := 11) (d := 56) 11 rfl (by kernel_rfl) (by kernel_rfl) (by kernel_rfl) ⟨_, _, _, rfl, rfl, rfl, rfl⟩ rfl rfl ?_
         refine wa_no (i := 12) (d := 57) 10 rfl (by kernel_rfl) (by kernel_rfl) (by kernel_rfl) ⟨_, _, _, rfl, rfl, rfl, rfl⟩ rfl rfl ?_
         refine wa_no (i := 13) (d := 58) 9 rfl (by kernel_rfl) (by kernel_rfl) (by kernel_rfl) ⟨_, _, _, rfl, rfl, rfl, rfl⟩ rfl rfl ?_
         refine wa_no (i := 14) (d := 59) 8 rfl (by kernel_rfl) (by kernel_rfl) (by kernel_rfl) ⟨_, _, _, rfl, rfl, rfl, rfl⟩ rfl rfl ?_
         refine wa_no (i := 15) (d := 60) 7 rfl (by kernel_rfl) (by kernel_rfl) (by kernel_rfl) ⟨_, _, _, rfl, rfl, rfl, rfl⟩ rfl rfl ?_
         refine wa_no (i := 16) (d := 61) 6 rfl (by kernel_rfl) (by kernel_rfl) (by kernel_rfl) ⟨_, _, _, rfl, rfl, rfl, rfl⟩ rfl rfl ?_
         refine wa_no (i := 17) (d := 62) 5 rfl (by kernel_rfl) (by kernel_rfl) (by kernel_rfl) ⟨_, _, _, rfl, rfl, rfl, rfl⟩ rfl rfl ?_
         refine wa_no (i := 18) (d := 63) 4 rfl (by kernel_rfl) (by kernel_rfl) (by kernel_rfl) ⟨_, _, _, rfl, rfl, rfl, rfl⟩ rfl rfl ?_
         refine wa_no (i := 19) (d := 64) 3 rfl (by kernel_rfl) (by kernel_rfl) (by kernel_rfl) ⟨_, _, _, rfl, rfl, rfl, rfl⟩ rfl rfl ?_
         refine wa_no (i := 20) (d := 65) 2 rfl (by kernel_rfl) (by kernel_rfl) (by kernel_rfl) ⟨_, _, _, rfl, rfl, rfl, rfl⟩ rfl rfl ?_
         refine wa_no (i := 21) (d := 66) 1 rfl (by kernel_rfl) (by kernel_rfl) (by kernel_rfl) ⟨_, _, _, rfl, rfl, rfl, rfl⟩ rfl rfl ?_
         refine wa_takeP (i := 22) (d := 67) 0 rfl (by kernel_rfl) (by kernel_rfl) (by kernel_rfl) rfl rfl rfl (fun w129 => run_pickF rfl rfl rfl) ?_
         refine wa_end (by kernel_rfl) (fun w130 S130 => ?_)
         refine nm_sub [(1, _), (2, _), (3, _), (4, _), (9, _), (10, _), (11, _), (12, _), (13, _), (67, _)] ⟨rfl, rfl, rfl, rfl, rfl, rfl, rfl, rfl, rfl, rfl, trivial⟩ ?_
         refine nm_thn ?_
         refine ws_condFN counted_n54 rfl rfl rfl ?_
         refine ws_skip rfl ?_
         refine nm_sub [(1, _), (2, _), (3, _), (4, _), (9, _), (10, _), (11, _), (12, _), (13, _)] ⟨rfl, rfl, rfl, rfl, rfl, rfl, rfl, rfl, rfl, trivial⟩ ?_
         refine nm_thn ?_
         refine ws_seqN counted_n55 counted_n56 rfl rfl rfl ?_
         refine ws_region rfl ?_
         refine wlo 0 1 rfl rfl rfl (wo_run rfl rfl (run_fieldAddr rfl rfl Try.underlying59 rfl (ce3) (nf3)) ?_)
         refine wlo 1 2 rfl rfl rfl (wo_run rfl rfl (run_load1 rfl rfl Try.underlying3 rfl (S130.boxc (i := 0) rfl rfl)) ?_)
         refine wlm 2 3 rfl rfl rfl rfl rfl rfl rfl ?_
         refine wlo 3 4 rfl rfl rfl (wo_run rfl rfl (run_leq rfl rfl rfl) ?_)
         refine wlm 4 5 rfl rfl rfl rfl rfl rfl rfl ?_
         refine wl_split (t := 72) rfl (fun hg72 => ?_) (fun hg72 => ?_)
         ·replace hg72 := of_decide_eq_true hg72
          refine wl_opG (k := 5) (k' := 6) rfl rfl ⟨_, _, _, rfl, rfl, rfl, rfl⟩ rfl (wo_run rfl rfl (run_fieldAddr rfl rfl Try.underlying59 rfl (ce3) (nf3)) ?_)
          refine wl_opG (k := 6) (k' := 7) rfl rfl ⟨_, _, _, rfl, rfl, rfl, rfl⟩ rfl (wo_run rfl rfl (run_load1 rfl rfl Try.underlying3 rfl (S130.boxc (i := 0) rfl rfl)) ?_)
          refine wl_opG (k := 7) (k' := 8) rfl rfl ⟨_, _, _, rfl, rfl, rfl, rfl⟩ rfl (wo_run rfl rfl (run_move rfl rfl) ?_)
          refine wl_opG (k := 8) (k' := 9) rfl rfl ⟨_, _, _, rfl, rfl, rfl, rfl⟩ rfl (wo_run rfl rfl (run_leq rfl rfl rfl) ?_)
          refine wlo 9 10 rfl rfl rfl (wo_run rfl rfl (run_pickT rfl rfl rfl) ?_)
          refine wlm 10 11 rfl rfl rfl rfl rfl rfl rfl ?_
          refine wl_split (t := 78) rfl (fun hg78 => ?_) (fun hg78 => ?_)
          ·replace hg78 := of_decide_eq_true hg78
           refine wl_opG (k := 11) (k' := 12) rfl rfl ⟨_, _, _, rfl, rfl, rfl, rfl⟩ rfl (wo_run rfl rfl (run_fieldAddr rfl rfl Try.underlying59 rfl (ce3) (nf3)) ?_)
           refine wl_opG (k := 12) (k' := 13) rfl rfl ⟨_, _, _, rfl, rfl, rfl, rfl⟩ rfl (wo_run rfl rfl (run_load1 rfl rfl Try.underlying3 rfl (S130.boxc (i := 0) rfl rfl)) ?_)
           refine wl_opG (k := 13) (k' := 14) rfl rfl ⟨_, _, _, rfl, rfl, rfl, rfl⟩ rfl (wo_run rfl rfl (run_move rfl rfl) ?_)
           refine wl_opG (k := 14) (k' := 15) rfl rfl ⟨_, _, _, rfl, rfl, rfl, rfl⟩ rfl (wo_run rfl rfl (run_leq rfl rfl rfl) ?_)
           refine wlo 15 16 rfl rfl rfl (wo_run rfl rfl (run_pickT rfl rfl rfl) ?_)
           refine wl_end rfl ?_
           refine nm_sub [(1, _), (2, _), (3, _), (4, _), (9, _), (10, _), (11, _), (12, _), (13, _), (83, _)] ⟨rfl, rfl, rfl, rfl, rfl, rfl, rfl, rfl, rfl, rfl, trivial⟩ ?_
           refine nm_thn ?_
           refine ws_condN counted_n57 counted_n58 rfl rfl rfl rfl (fun hb83 => ?_) (fun hb83 => ?_)
           ·replace hb83 := of_decide_eq_true hb83
            refine ws_seqN counted_n59 counted_n60 rfl rfl rfl ?_
            refine ws_draw rfl (by kernel_rfl) S130 12 rfl ?_
            clear S130
            refine wa_takeP (i := 0) (d := 84) 11 rfl (by kernel_rfl) (by kernel_rfl) (by kernel_rfl) rfl rfl rfl (fun w131 => run_move rfl rfl) ?_
            refine wa_takeP (i := 1) (d := 85) 10 rfl (by kernel_rfl) (by kernel_rfl) (by kernel_rfl) rfl rfl rfl (fun w132 => run_fieldAddr rfl rfl Try.underlying59 rfl (ce3) (nf3)) ?_
            refine wa_take (i := 2) (d := 86) 9 rfl (by kernel_rfl) (by kernel_rfl) (by kernel_rfl) rfl rfl rfl (fun M117 N117 w133 hle119 S133 => .inl (run_load1 rfl rfl Try.underlying3 rfl (S133.suf.boxc (i := 0) rfl rfl))) ?_
            refine wa_take (i := 3) (d := 87) 8 rfl (by kernel_rfl) (by kernel_rfl) (by kernel_rfl) rfl rfl rfl (fun M118 N118 w134 hle120 S134 => .inl (run_indexR (C := cdInt) (i := 2) (((ga d.crs i).a).toNat) rfl rfl rfl sl33 S134.suf rfl (by first | rfl | omega) (by first | omega | (simp only [lens]; omega)))) ?_
            refine wa_take (i := 4) (d := 88) 7 rfl (by kernel_rfl) (by kernel_rfl) (by kernel_rfl) rfl rfl rfl (fun M119 N119 w135 hle121 S135 => .inl (run_load1 rfl rfl Try.underlying3 rfl (S135.suf.rowc (i := 2) (e := ((ga d.crs i).a).toNat) (j := 0) rfl (by first | omega | (simp only [lens]; omega)) rfl rfl))) ?_
            refine wa_takeP (i := 5) (d := 89) 6 rfl (by kernel_rfl) (by kernel_rfl) (by kernel_rfl) rfl rfl rfl (fun w136 => run_move rfl rfl) ?_
            refine wa_takeP (i := 6) (d := 90) 5 rfl (by kernel_rfl) (by kernel_rfl) (by kernel_rfl) rfl rfl rfl (fun w137 => run_fieldAddr rfl rfl Try.underlying59 rfl (ce3) (nf3)) ?_
            refine wa_take (i := 7) (d := 91) 4 rfl (by kernel_rfl) (by kernel_rfl) (by kernel_rfl) rfl rfl rfl (fun M122 N122 w138 hle124 S138 => .inl (run_load1 rfl rfl Try.underlying3 rfl (S138.suf.boxc (i := 0) rfl rfl))) ?_
            refine wa_take (i := 8) (d := 92) 3 rfl (by kernel_rfl) (by kernel_rfl) (by kernel_rfl) rfl rfl rfl (fun M123 N123 w139 hle125 S139 => .inl (run_indexR (C := cdInt) (i := 2) (((ga d.crs i).c).toNat) rfl rfl rfl sl33 S139.suf rfl (by first | rfl | omega) (by first | omega | (simp only [lens]; omega)))) ?_
            refine wa_take (i := 9) (d := 93) 2 rfl (by kernel_rfl) (by kernel_rfl) (by kernel_rfl) rfl rfl rfl (fun M124 N124 w140 hle126 S140 => .inl (run_load1 rfl rfl Try.underlying3 rfl (S140.suf.rowc (i := 2) (e := ((ga d.crs i).c).toNat) (j := 0) rfl (by first | omega | (simp only [lens]; omega)) rfl rfl))) ?_
            refine wa_takeP (i := 10) (d := 14) 1 rfl (by kernel_rfl) (by kernel_rfl) (by kernel_rfl) rfl rfl rfl (fun w141 => run_assign rfl rfl) ?_
            refine wa_takeP (i := 11) (d := 15) 0 rfl (by kernel_rfl) (by kernel_rfl) (by kernel_rfl) rfl rfl rfl (fun w142 => run_assign rfl rfl) ?_
            refine wa_end (by kernel_rfl) (fun w143 S143 => ?_)
            refine nm_sub [(1, _), (2, _), (3, _), (4, _), (9, _), (10, _), (11, _), (12, _), (13, _), (14, _), (15, _)] ⟨rfl, rfl, rfl, rfl, rfl, rfl, rfl, rfl, rfl, rfl, rfl, trivial⟩ ?_
            refine nm_thn ?_
            refine ws_seqN counted_n61 counted_n62 rfl rfl rfl ?_
            refine ws_seqN counted_n63 counted_n64 rfl rfl rfl ?_
            refine ws_region rfl ?_
            refine wlo 0 1 rfl rfl rfl (wo_run rfl rfl (run_fieldAddr rfl rfl Try.underlying59 rfl (ce4) (nf4)) ?_)
            refine wlo 1 2 rfl rfl rfl (wo_run rfl rfl (run_load1 rfl rfl Try.underlying4 rfl (S143.boxc (i := 0) rfl rfl)) ?_)
            refine wlo 2 3 rfl rfl rfl (wo_run rfl rfl (run_not rfl rfl) ?_)
            refine wl_end rfl ?_
            refine nm_sub [(1, _), (2, _), (3, _), (4, _), (9, _), (10, _), (11, _), (12, _), (13, _), (14, _), (15, _), (96, _)] ⟨rfl, rfl, rfl, rfl, rfl, rfl, rfl, rfl, rfl, rfl, rfl, rfl, trivial⟩ ?_
            refine nm_thn ?_
            refine ws_condN counted_n65 counted_n66 rfl rfl rfl rfl (fun hb96 => ?_) (fun hb96 => ?_)
            ·simp only [Bool.and_eq_true, Bool.or_eq_true, Bool.and_eq_false_iff, Bool.or_eq_false_iff, decide_eq_true_eq, decide_eq_false_iff_not, Bool.not_eq_true', Bool.not_eq_false'] at hb96
             refine ws_draw rfl (by kernel_rfl) S143 12 rfl ?_
             clear S143
             refine wa_takeP (i := 0) (d := 97) 11 rfl (by kernel_rfl) (by kernel_rfl) (by kernel_rfl) rfl rfl rfl (fun w144 => run_move rfl rfl) ?_
             refine wa_takeP (i := 1) (d := 98) 10 rfl (by kernel_rfl) (by kernel_rfl) (by kernel_rfl) rfl rfl rfl (fun w145 => run_fieldAddr rfl rfl Try.underlying59 rfl (ce3) (nf3)) ?_
             refine wa_take (i := 2) (d := 99) 9 rfl (by kernel_rfl) (by kernel_rfl) (by kernel_rfl) rfl rfl rfl (fun M129 N129 w146 hle131 S146 => .inl (run_load1 rfl rfl Try.underlying3 rfl (S146.suf.boxc (i := 0) rfl rfl))) ?_
             refine wa_take (i := 3) (d := 100) 8 rfl (by kernel_rfl) (by kernel_rfl) (by kernel_rfl) rfl rfl rfl (fun M130 N130 w147 hle132 S147 => .inl (run_indexR (C := cdInt) (i := 2) (((ga d.crs i).c).toNat) rfl rfl rfl sl33 S147.suf rfl (by first | rfl | omega) (by first | omega | (simp only [lens]; omega)))) ?_
             refine wa_take (i := 4) (d := 101) 7 rfl (by kernel_rfl) (by kernel_rfl) (by kernel_rfl) rfl rfl rfl (fun M131 N131 w148 hle133 S148 => .inl (run_load1 rfl rfl Try.underlying3 rfl (S148.suf.rowc (i := 2) (e := ((ga d.crs i).c).toNat) (j := 0) rfl (by first | omega | (simp only [lens]; omega)) rfl rfl))) ?_
             refine wa_takeP (i := 5) (d := 102) 6 rfl (by kernel_rfl) (by kernel_rfl) (by kernel_rfl) rfl rfl rfl (fun w149 => run_move rfl rfl) ?_
             refine wa_takeP (i := 6) (d := 103) 5 rfl (by kernel_rfl) (by kernel_rfl) (by kernel_rfl) rfl rfl rfl (fun w150 => run_fieldAddr rfl rfl Try.underlying59 rfl (ce3) (nf3)) ?_
             refine wa_take (i := 7) (d := 104) 4 rfl (by kernel_rfl) (by kernel_rfl) (by kernel_rfl) rfl rfl rfl (fun M134 N134 w151 hle136 S151 => .inl (run_load1 rfl rfl Try.underlying3 rfl (S151.suf.boxc (i := 0) rfl rfl))) ?_
             refine wa_take (i := 8) (d := 105) 3 rfl (by kernel_rfl) (by kernel_rfl) (by kernel_rfl) rfl rfl rfl (fun M135 N135 w152 hle137 S152 => .inl (run_indexR (C := cdInt) (i := 2) (((ga d.crs i).a).toNat) rfl rfl rfl sl33 S152.suf rfl (by first | rfl | omega) (by first | omega | (simp only [lens]; omega)))) ?_
             refine wa_take (i := 9) (d := 106) 2 rfl (by kernel_rfl) (by kernel_rfl) (by kernel_rfl) rfl rfl rfl (fun M136 N136 w153 hle138 S153 => .inl (run_load1 rfl rfl Try.underlying3 rfl (S153.suf.rowc (i := 2) (e := ((ga d.crs i).a).toNat) (j := 0) rfl (by first | omega | (simp only [lens]; omega)) rfl rfl))) ?_
             refine wa_takeP (i := 10) (d := 14) 1 rfl (by kernel_rfl) (by kernel_rfl) (by kernel_rfl) rfl rfl rfl (fun w154 => run_assign rfl rfl) ?_
             refine wa_takeP (i := 11) (d := 15) 0 rfl (by kernel_rfl) (by kernel_rfl) (by kernel_rfl) rfl rfl rfl (fun w155 => run_assign rfl rfl) ?_
             refine wa_end (by kernel_rfl) (fun w156 S156 => ?_)
             refine nm_sub [(1, _), (2, _), (3, _), (4, _), (9, _), (10, _), (11, _), (12, _), (13, _), (14, _), (15, _)] ⟨rfl, rfl, rfl, rfl, rfl, rfl, rfl, rfl, rfl, rfl, rfl, trivial⟩ ?_
             refine nm_thn ?_
             refine ws_draw rfl (by kernel_rfl) S156 17 rfl ?_
             clear S156
             refine wa_takeP (i := 0) (d := 107) 16 rfl (by kernel_rfl) (by kernel_rfl) (by kernel_rfl) rfl rfl rfl (fun w157 => run_move rfl rfl) ?_
             refine wa_takeP (i := 1) (d := 108) 15 rfl (by kernel_rfl) (by kernel_rfl) (by kernel_rfl) rfl rfl rfl (fun w158 => run_move rfl rfl) ?_
             refine wa_split (t := 108) rfl (fun hg108 => ?_) (fun hg108 => ?_)
             ·refine wa_takeP (i := 2) (d := 109) 14 rfl (by kernel_rfl) (by kernel_rfl) (by kernel_rfl) ⟨_, _, _, rfl, rfl, rfl, rfl⟩ rfl rfl (fun w159 => run_move rfl rfl) ?_
              refine wa_takeP (i := 3) (d := 110) 13 rfl (by kernel_rfl) (by kernel_rfl) (by kernel_rfl) ⟨_, _, _, rfl, rfl, rfl, rfl⟩ rfl rfl (fun w160 => run_move rfl rfl) ?_
              refine wa_take (i := 4) (d := 111) 12 rfl (by kernel_rfl) (by kernel_rfl) (by kernel_rfl) ⟨_, _, _, rfl, rfl, rfl, rfl⟩ rfl rfl (fun M143 N143 w161 hle145 S161 => .inl (run_indexM (C := (cdV 33)) ((ga l2 (((ga d.crs i).c).toNat)).toNat) rfl rfl rfl sl34 (by first | rfl | omega) (hq.mono (Hp.un_mono hle145 S161.mx)) (by first | omega | (simp only [lens]; omega)))) ?_
              obtain ⟨hn3, hr3⟩ := hdq.2 ((ga l2 (((ga d.crs i).c).toNat)).toNat) (by first | omega | (simp only [lens]; omega))
              have rmhr3 : (ga q ((ga l2 (((ga d.crs i).c).toNat)).toNat)).length * 8 ≤ 140737488355328 := hr3.room
              refine wa_take (i := 5) (d := 112) 11 rfl (by kernel_rfl) (by kernel_rfl) (by kernel_rfl) ⟨_, _, _, rfl, rfl, rfl, rfl⟩ rfl rfl (fun M144 N144 w162 hle146 S162 => .inl (run_load1 rfl rfl Try.underlying33 rfl ((hq.mono (Hp.un_mono hle146 S162.mx)).cell S162.um (i := (ga l2 (((ga d.crs i).c).toNat)).toNat) (by first | omega | (simp only [lens]; omega)) 0 rfl (congrArg (fun n => some (Value.slice _ n _)) hn3)))) ?_
              refine wa_takeP (i := 6) (d := 113) 10 rfl (by kernel_rfl) (by kernel_rfl) (by kernel_rfl) ⟨_, _, _, rfl, rfl, rfl, rfl⟩ rfl rfl (fun w163 => run_move rfl rfl) ?_
              refine wa_takeP (i := 7) (d := 114) 9 rfl (by kernel_rfl) (by kernel_rfl) (by kernel_rfl) ⟨_, _, _, rfl, rfl, rfl, rfl⟩ rfl rfl (fun w164 => run_fieldAddr rfl rfl Try.underlying59 rfl (ce3) (nf3)) ?_
              refine wa_take (i := 8) (d := 115) 8 rfl (by kernel_rfl) (by kernel_rfl) (by kernel_rfl) ⟨_, _, _, rfl, rfl, rfl, rfl⟩ rfl rfl (fun M147 N147 w165 hle149 S165 => .inl (run_load1 rfl rfl Try.underlying3 rfl (S165.suf.boxc (i := 0) rfl rfl))) ?_
              refine wa_take (i := 9) (d := 116) 7 rfl (by kernel_rfl) (by kernel_rfl) (by kernel_rfl) ⟨_, _, _, rfl, rfl, rfl, rfl⟩ rfl rfl (fun M148 N148 w166 hle150 S166 => .inl (run_indexR (C := cdInt) (i := 2) (((ga d.crs i).b).toNat) rfl rfl rfl sl33 S166.suf rfl (by first | rfl | omega) (by first | omega | (simp only [lens]; omega)))) ?_
              refine wa_take (i := 10) (d := 117) 6 rfl (by kernel_rfl) (by kernel_rfl) (by kernel_rfl) ⟨_, _, _, rfl, rfl, rfl, rfl⟩ rfl rfl (fun M149 N149 w167 hle151 S167 => .inl (run_load1 rfl rfl Try.underlying3 rfl (S167.suf.rowc (i := 2) (e := ((ga d.crs i).b).toNat) (j := 0) rfl (by first | omega | (simp only [lens]; omega)) rfl rfl))) ?_
              refine wa_take (i := 11) (d := 118) 5 rfl (by kernel_rfl) (by kernel_rfl) (by kernel_rfl) ⟨_, _, _, rfl, rfl, rfl, rfl⟩ rfl rfl (fun M150 N150 w168 hle152 S168 => .inl (run_indexM (C := cdInt) ((ga l2 (((ga d.crs i).b).toNat)).toNat) rfl rfl rfl sl33 (by first | rfl | omega) (hr3.mono (Hp.un_mono hle152 S168.mx)) (by first | omega | (simp only [lens]; omega)))) ?_
              refine wa_take (i := 12) (d := 119) 4 rfl (by kernel_rfl) (by kernel_rfl) (by kernel_rfl) ⟨_, _, _, rfl, rfl, rfl, rfl⟩ rfl rfl (fun M151 N151 w169 hle153 S169 => .inl (run_load1 rfl rfl Try.underlying3 rfl ((hr3.mono (Hp.un_mono hle153 S169.mx)).cell S169.um (i := (ga l2 (((ga d.crs i).b).toNat)).toNat) (by first | omega | (simp only [lens]; omega)) 0 rfl rfl))) ?_
              refine wa_takeP (i := 13) (d := 120) 3 rfl (by kernel_rfl) (by kernel_rfl) (by kernel_rfl) ⟨_, _, _, rfl, rfl, rfl, rfl⟩ rfl rfl (fun w170 => run_move rfl rfl) ?_
              refine wa_takeP (i := 14) (d := 121) 2 rfl (by kernel_rfl) (by kernel_rfl) (by kernel_rfl) ⟨_, _, _, rfl, rfl, rfl, rfl⟩ rfl rfl (fun w171 => run_eql rfl rfl rfl) ?_
              refine wa_takeP (i := 15) (d := 122) 1 rfl (by kernel_rfl) (by kernel_rfl) (by kernel_rfl) rfl rfl rfl (fun w172 => run_pickT rfl rfl rfl) ?_
              refine wa_takeP (i := 16) (d := 11) 0 rfl (by kernel_rfl) (by kernel_rfl) (by kernel_rfl) rfl rfl rfl (fun w173 => run_assign rfl rfl) ?_
              refine wa_end (by kernel_rfl) (fun w174 S174 => ?_)
              refine nm_blk ?_
              refine nm_sub [(1, _), (2, _), (3, _), (4, _), (9, _), (10, _), (11, _), (12, _)] ⟨rfl, rfl, rfl, rfl, rfl, rfl, rfl, rfl, trivial⟩ ?_
              refine nm_thn ?_
              refine ws_region rfl ?_
              refine wlm 0 1 rfl rfl rfl rfl rfl rfl rfl ?_
              refine wlo 1 2 rfl rfl rfl (wo_run rfl rfl (run_add rfl rfl rfl (by first | omega | (simp only [lens]; omega))) ?_)
              refine wla 2 3 rfl rfl rfl rfl rfl rfl rfl ?_
              refine wl_end rfl ?_
              refine nm_lp ?_
              intro ax_ hax_
              refine ⟨_, ?hq13m, ⟨i + 1, decide ((ga (ga q ((ga l2 (((ga d.crs i).c).toNat)).toNat)) ((ga l2 (((ga d.crs i).b).toNat)).toNat)) = (ga l2 (((ga d.crs i).a).toNat))), rfl, hax_.sub ⟨rfl, rfl, rfl, rfl, rfl, rfl, rfl, rfl, trivial⟩, S174.pick [1, 2] [_, _] (by decide) ⟨rfl, rfl, trivial⟩, ?hq13f0, ?hq13f1, ?hq13f2⟩⟩
              case hq13f0 => omega
              case hq13f1 => first | (intro h9; exact Bool.noConfusion h9) | (intro h9 j hj; by_cases e : j = i; (subst e; refine ⟨fun h1 h2 => ?_, fun h1 h2 h3 => ?_⟩; (unfold eB at h1 ⊢; unfold eD at h2 ⊢; omega); (unfold eA at h1 ⊢; unfold eB at h2 ⊢; unfold eC at h3 ⊢; first | omega | (have h8 := of_decide_eq_true h9; unfold q2; first | (rw [if_pos (by assumption)]; exact h8) | (rw [if_neg (by simp [*])]; exact h8)))); exact hok1 hb37 j (by omega))
              case hq13f2 => first | (intro h9; rw [hb37] at h9; cases h9; done) | (intro h9; exact Bool.noConfusion h9) | (intro _; exact ⟨i, by omega, fun hx => hb67 (hx.1 (by unfold eB; omega) (by unfold eD; omega))⟩) | (intro h9; refine ⟨i, by omega, fun hx => ?_⟩; have h8 := of_decide_eq_false h9; have h7 := hx.2 (by unfold eA; omega) (by unfold eB; omega) (by unfold eC; omega); unfold q2 eA eB eC at h7; first | (rw [if_pos (by assumption)] at h7; exact h8 h7) | (rw [if_neg (by assumption)] at h7; exact h8 h7) | (rw [if_neg (by clear h7 h8 hx; simp [*])] at h7; exact h8 h7))
              case hq13m => omega
             ·exfalso; (rw [hb37] at hg108; cases hg108)
            ·simp only [Bool.and_eq_true, Bool.or_eq_true, Bool.and_eq_false_iff, Bool.or_eq_false_iff, decide_eq_true_eq, decide_eq_false_iff_not, Bool.not_eq_true', Bool.not_eq_false'] at hb96
             refine ws_skip rfl ?_
             refine nm_sub [(1, _), (2, _), (3, _), (4, _), (9, _), (10, _), (11, _), (12, _), (13, _), (14, _), (15, _)] ⟨rfl, rfl, rfl, rfl, rfl, rfl, rfl, rfl, rfl, rfl, rfl, trivial⟩ ?_
             refine nm_thn ?_
             refine ws_draw rfl (by kernel_rfl) S143 17 rfl ?_
             clear S143
             refine wa_takeP (i := 0) (d := 107) 16 rfl (by kernel_rfl) (by kernel_rfl) (by kernel_rfl) rfl rfl rfl (fun w175 => run_move rfl rfl) ?_
             refine wa_takeP (i := 1) (d := 108) 15 rfl (by kernel_rfl) (by kernel_rfl) (by kernel_rfl) rfl rfl rfl (fun w176 => run_move rfl rfl) ?_
             refine wa_split (t := 108) rfl (fun hg108 => ?_) (fun hg108 => ?_)
             ·refine wa_takeP (i := 2) (d := 109) 14 rfl (by kernel_rfl) (by kernel_rfl) (by kernel_rfl) ⟨_, _, _, rfl, rfl, rfl, rfl⟩ rfl rfl (fun w177 => run_move rfl rfl) ?_
              refine wa_takeP (i := 3) (d := 110) 13 rfl (by kernel_rfl) (by kernel_rfl) (by kernel_rfl) ⟨_, _, _, rfl, rfl, rfl, rfl⟩ rfl rfl (fun w178 => run_move rfl rfl) ?_
              refine wa_take (i := 4) (d := 111) 12 rfl (by kernel_rfl) (by kernel_rfl) (by kernel_rfl) ⟨_, _, _, rfl, rfl, rfl, rfl⟩ rfl rfl (fun M160 N160 w179 hle162 S179 => .inl (run_indexM (C := (cdV 33)) ((ga l2 (((ga d.crs i).a).toNat)).toNat) rfl rfl rfl sl34 (by first | rfl | omega) (hq.mono (Hp.un_mono hle162 S179.mx)) (by first | omega | (simp only [lens]; omega)))) ?_
              obtain ⟨hn4, hr4⟩ := hdq.2 ((ga l2 (((ga d.crs i).a).toNat)).toNat) (by first | omega | (simp only [lens]; omega))
              have rmhr4 : (ga q ((ga l2 (((ga d.crs i).a).toNat)).toNat)).length * 8 ≤ 140737488355328 := hr4.room
              refine wa_take (i := 5) (d := 112) 11 rfl (by kernel_rfl) (by kernel_rfl) (by kernel_rfl) ⟨_, _, _, rfl, rfl, rfl, rfl⟩ rfl rfl (fun M161 N161 w180 hle163 S180 => .inl (run_load1 rfl rfl Try.underlying33 rfl ((hq.mono (Hp.un_mono hle163 S180.mx)).cell S180.um (i := (ga l2 (((ga d.crs i).a).toNat)).toNat) (by first | omega | (simp only [lens]; omega)) 0 rfl (congrArg (fun n => some (Value.slice _ n _)) hn4)))) ?_
              refine wa_takeP (i := 6) (d := 113) 10 rfl (by kernel_rfl) (by kernel_rfl) (by kernel_rfl) ⟨_, _, _, rfl, rfl, rfl, rfl⟩ rfl rfl (fun w181 => run_move rfl rfl) ?_
              refine wa_takeP (i := 7) (d := 114) 9 rfl (by kernel_rfl) (by kernel_rfl) (by kernel_rfl) ⟨_, _, _, rfl, rfl, rfl, rfl⟩ rfl rfl (fun w182 => run_fieldAddr rfl rfl Try.underlying59 rfl (ce3) (nf3)) ?_
              refine wa_take (i := 8) (d := 115) 8 rfl (by kernel_rfl) (by kernel_rfl) (by kernel_rfl) ⟨_, _, _, rfl, rfl, rfl, rfl⟩ rfl rfl (fun M164 N164 w183 hle166 S183 => .inl (run_load1 rfl rfl Try.underlying3 rfl (S183.suf.boxc (i := 0) rfl rfl))) ?_
              refine wa_take (i := 9) (d := 116) 7 rfl (by kernel_rfl) (by kernel_rfl) (by kernel_rfl) ⟨_, _, _, rfl, rfl, rfl, rfl⟩ rfl rfl (fun M165 N165 w184 hle167 S184 => .inl (run_indexR (C := cdInt) (i := 2) (((ga d.crs i).b).toNat) rfl rfl rfl sl33 S184.suf rfl (by first | rfl | omega) (by first | omega | (simp only [lens]; omega)))) ?_
              refine wa_take (i := 10) (d := 117) 6 rfl (by kernel_rfl) (by kernel_rfl) (by kernel_rfl) ⟨_, _, _, rfl, rfl, rfl, rfl⟩ rfl rfl (fun M166 N166 w185 hle168 S185 => .inl (run_load1 rfl rfl Try.underlying3 rfl (S185.suf.rowc (i := 2) (e := ((ga d.crs i).b).toNat) (j := 0) rfl (by first | omega | (simp only [lens]; omega)) rfl rfl))) ?_
              refine wa_take (i := 11) (d := 118) 5 rfl (by kernel_rfl) (by kernel_rfl) (by kernel_rfl) ⟨_, _, _, rfl, rfl, rfl, rfl⟩ rfl rfl (fun M167 N167 w186 hle169 S186 => .inl (run_indexM (C := cdInt) ((ga l2 (((ga d.crs i).b).toNat)).toNat) rfl rfl rfl sl33 (by first | rfl | omega) (hr4.mono (Hp.un_mono hle169 S186.mx)) (by first | omega | (simp only [lens]; omega)))) ?_
              refine wa_take (i := 12) (d := 119) 4 rfl (by kernel_rfl) (by kernel_rfl) (by kernel_rfl) ⟨_, _, _, rfl, rfl, rfl, rfl⟩ rfl rfl (fun M168 N168 w187 hle170 S187 => .inl (run_load1 rfl rfl Try.underlying3 rfl ((hr4.mono (Hp.un_mono hle170 S187.mx)).cell S187.um (i := (ga l2 (((ga d.crs i).b).toNat)).toNat) (by first | omega | (simp only [lens]; omega)) 0 rfl rfl))) ?_
              refine wa_takeP (i := 13) (d := 120) 3 rfl (by kernel_rfl) (by kernel_rfl) (by kernel_rfl) ⟨_, _, _, rfl, rfl, rfl, rfl⟩ rfl rfl (fun w188 => run_move rfl rfl) ?_
              refine wa_takeP (i := 14) (d := 121) 2 rfl (by kernel_rfl) (by kernel_rfl) (by kernel_rfl) ⟨_, _, _, rfl, rfl, rfl, rfl⟩ rfl rfl (fun w189 => run_eql rfl rfl rfl) ?_
              refine wa_takeP (i := 15) (d := 122) 1 rfl (by kernel_rfl) (by kernel_rfl) (by kernel_rfl) rfl rfl rfl (fun w190 => run_pickT rfl rfl rfl) ?_
              refine wa_takeP (i := 16) (d := 11) 0 rfl (by kernel_rfl) (by kernel_rfl) (by kernel_rfl) rfl rfl rfl (fun w191 => run_assign rfl rfl) ?_
              refine wa_end (by kernel_rfl) (fun w192 S192 => ?_)
              refine nm_blk ?_
              refine nm_sub [(1, _), (2, _), (3, _), (4, _), (9, _), (10, _), (11, _), (12, _)] ⟨rfl, rfl, rfl, rfl, rfl, rfl, rfl, rfl, trivial⟩ ?_
              refine nm_thn ?_
              refine ws_region rfl ?_
              refine wlm 0 1 rfl rfl rfl rfl rfl rfl rfl ?_
              refine wlo 1 2 rfl rfl rfl (wo_run rfl rfl (run_add rfl rfl rfl (by first | omega | (simp only [lens]; omega))) ?_)
              refine wla 2 3 rfl rfl rfl rfl rfl rfl rfl ?_
              refine wl_end rfl ?_
              refine nm_lp ?_
              intro ax_ hax_
              refine ⟨_, ?hq14m, ⟨i + 1, decide ((ga (ga q ((ga l2 (((ga d.crs i).a).toNat)).toNat)) ((ga l2 (((ga d.crs i).b).toNat)).toNat)) = (ga l2 (((ga d.crs i).c).toNat))), rfl, hax_.sub ⟨rfl, rfl, rfl, rfl, rfl, rfl, rfl, rfl, trivial⟩, S192.pick [1, 2] [_, _] (by decide) ⟨rfl, rfl, trivial⟩, ?hq14f0, ?hq14f1, ?hq14f2⟩⟩
              case hq14f0 => omega
              case hq14f1 => first | (intro h9; exact Bool.noConfusion h9) | (intro h9 j hj; by_cases e : j = i; (subst e; refine ⟨fun h1 h2 => ?_, fun h1 h2 h3 => ?_⟩; (unfold eB at h1 ⊢; unfold eD at h2 ⊢; omega); (unfold eA at h1 ⊢; unfold eB at h2 ⊢; unfold eC at h3 ⊢; first | omega | (have h8 := of_decide_eq_true h9; unfold q2; first | (rw [if_pos (by assumption)]; exact h8) | (rw [if_neg (by simp [*])]; exact h8)))); exact hok1 hb37 j (by omega))
              case hq14f2 => first | (intro h9; rw [hb37] at h9; cases h9; done) | (intro h9; exact Bool.noConfusion h9) | (intro _; exact ⟨i, by omega, fun hx => hb67 (hx.1 (by unfold eB; omega) (by unfold eD; omega))⟩) | (intro h9; refine ⟨i, by omega, fun hx => ?_⟩; have h8 := of_decide_eq_false h9; have h7 := hx.2 (by unfold eA; omega) (by unfold eB; omega) (by unfold eC; omega); unfold q2 eA eB eC at h7; first | (rw [if_pos (by assumption)] at h7; exact h8 h7) | (rw [if_neg (by assumption)] at h7; exact h8 h7) | (rw [if_neg (by clear h7 h8 hx; simp [*])] at h7; exact h8 h7))
              case hq14m => omega
             ·exfalso; (rw [hb37] at hg108; cases hg108)
           ·replace hb83 := of_decide_eq_false hb83
            refine ws_skip rfl ?_
            refine nm_blk ?_
            refine nm_sub [(1, _), (2, _), (3, _), (4, _), (9, _), (10, _), (11, _), (12, _)] ⟨rfl, rfl, rfl, rfl, rfl, rfl, rfl, rfl, trivial⟩ ?_
            refine nm_thn ?_
            refine ws_region rfl ?_
            refine wlm 0 1 rfl rfl rfl rfl rfl rfl rfl ?_
            refine wlo 1 2 rfl rfl rfl (wo_run rfl rfl (run_add rfl rfl rfl (by first | omega | (simp only [lens]; omega))) ?_)
            refine wla 2 3 rfl rfl rfl rfl rfl rfl rfl ?_
            refine wl_end rfl ?_
            refine nm_lp ?_
            intro ax_ hax_
            refine ⟨_, ?hq15m, ⟨i + 1, ok, rfl, hax_.sub ⟨rfl, rfl, rfl, rfl, rfl, rfl, rfl, rfl, trivial⟩, S130.pick [1, 2] [_, _] (by decide) ⟨rfl, rfl, trivial⟩, ?hq15f0, ?hq15f1, ?hq15f2⟩⟩
            case hq15f0 => omega
            case hq15f1 => first | (intro h9; exact Bool.noConfusion h9) | (intro h9 j hj; by_cases e : j = i; (subst e; refine ⟨fun h1 h2 => ?_, fun h1 h2 h3 => ?_⟩; (unfold eB at h1 ⊢; unfold eD at h2 ⊢; omega); (unfold eA at h1 ⊢; unfold eB at h2 ⊢; unfold eC at h3 ⊢; first | omega | (have h8 := of_decide_eq_true h9; unfold q2; first | (rw [if_pos (by assumption)]; exact h8) | (rw [if_neg (by simp [*])]; exact h8)))); exact hok1 hb37 j (by omega))
            case hq15f2 => first | (intro h9; rw [hb37] at h9; cases h9; done) | (intro h9; exact Bool.noConfusion h9) | (intro _; exact ⟨i, by omega, fun hx => hb67 (hx.1 (by unfold eB; omega) (by unfold eD; omega))⟩) | (intro h9; refine ⟨i, by omega, fun hx => ?_⟩; have h8 := of_decide_eq_false h9; have h7 := hx.2 (by unfold eA; omega) (by unfold eB; omega) (by unfold eC; omega); unfold q2 eA eB eC at h7; first | (rw [if_pos (by assumption)] at h7; exact h8 h7) | (rw [if_neg (by assumption)] at h7; exact h8 h7) | (rw [if_neg (by clear h7 h8 hx; simp [*])] at h7; exact h8 h7))
            case hq15m => omega
          ·replace hg78 := of_decide_eq_false hg78
           refine wl_no (k := 11) (k' := 12) (d := 79) rfl rfl ⟨_, _, _, rfl, rfl, rfl, rfl⟩ rfl rfl ?_
           refine wl_no (k := 12) (k' := 13) (d := 80) rfl rfl ⟨_, _, _, rfl, rfl, rfl, rfl⟩ rfl rfl ?_
           refine wl_no (k := 13) (k' := 14) (d := 81) rfl rfl ⟨_, _, _, rfl, rfl, rfl, rfl⟩ rfl rfl ?_
           refine wl_no (k := 14) (k' := 15) (d := 82) rfl rfl ⟨_, _, _, rfl, rfl, rfl, rfl⟩ rfl rfl ?_
           refine wlo 15 16 rfl rfl rfl (wo_run rfl rfl (run_pickF rfl rfl rfl) ?_)
           refine wl_end rfl ?_
           refine nm_sub [(1, _), (2, _), (3, _), (4, _), (9, _), (10, _), (11, _), (12, _), (13, _), (83, _)] ⟨rfl, rfl, rfl, rfl, rfl, rfl, rfl, rfl, rfl, rfl, trivial⟩ ?_
           refine nm_thn ?_
           refine ws_condFN counted_n58 rfl rfl rfl ?_
           refine ws_skip rfl ?_
           refine nm_blk ?_
           refine nm_sub [(1, _), (2, _), (3, _), (4, _), (9, _), (10, _), (11, _), (12, _)] ⟨rfl, rfl, rfl, rfl, rfl, rfl, rfl, rfl, trivial⟩ ?_
           refine nm_thn ?_
           refine ws_region rfl ?_
           refine wlm 0 1 rfl rfl rfl rfl rfl rfl rfl ?_
           refine wlo 1 2 rfl rfl rfl (wo_run rfl rfl (run_add rfl rfl rfl (by first | omega | (simp only [lens]; omega))) ?_)
           refine wla 2 3 rfl rfl rfl rfl rfl rfl rfl ?_
           refine wl_end rfl ?_
           refine nm_lp ?_
           intro ax_ hax_
           refine ⟨_, ?hq16m, ⟨i + 1, ok, rfl, hax_.sub ⟨rfl, rfl, rfl, rfl, rfl, rfl, rfl, rfl, trivial⟩, S130.pick [1, 2] [_, _] (by decide) ⟨rfl, rfl, trivial⟩, ?hq16f0, ?hq16f1, ?hq16f2⟩⟩
           case hq16f0 => omega
           case hq16f1 => first | (intro h9; exact Bool.noConfusion h9) | (intro h9 j hj; by_cases e : j = i; (subst e; refine ⟨fun h1 h2 => ?_, fun h1 h2 h3 => ?_⟩; (unfold eB at h1 ⊢; unfold eD at h2 ⊢; omega); (unfold eA at h1 ⊢; unfold eB at h2 ⊢; unfold eC at h3 ⊢; first | omega | (have h8 := of_decide_eq_true h9; unfold q2; first | (rw [if_pos (by assumption)]; exact h8) | (rw [if_neg (by simp [*])]; exact h8)))); exact hok1 hb37 j (by omega))
           case hq16f2 => first | (intro h9; rw [hb37] at h9; cases h9; done) | (intro h9; exact Bool.noConfusion h9) | (intro _; exact ⟨i, by omega, fun hx => hb67 (hx.1 (by unfold eB; omega) (by unfold eD; omega))⟩) | (intro h9; refine ⟨i, by omega, fun hx => ?_⟩; have h8 := of_decide_eq_false h9; have h7 := hx.2 (by unfold eA; omega) (by unfold eB; omega) (by unfold eC; omega); unfold q2 eA eB eC at h7; first | (rw [if_pos (by assumption)] at h7; exact h8 h7) | (rw [if_neg (by assumption)] at h7; exact h8 h7) | (rw [if_neg (by clear h7 h8 hx; simp [*])] at h7; exact h8 h7))
           case hq16m => omega
         ·replace hg72 := of_decide_eq_false hg72
          refine wl_no (k := 5) (k' := 6) (d := 73) rfl rfl ⟨_, _, _, rfl, rfl, rfl, rfl⟩ rfl rfl ?_
          refine wl_no (k := 6) (k' := 7) (d := 74) rfl rfl ⟨_, _, _, rfl, rfl, rfl, rfl⟩ rfl rfl ?_
          refine wl_no (k := 7) (k' := 8) (d := 75) rfl rfl ⟨_, _, _, rfl, rfl, rfl, rfl⟩ rfl rfl ?_
          refine wl_no (k := 8) (k' := 9) (d := 76) rfl rfl ⟨_, _, _, rfl, rfl, rfl, rfl⟩ rfl rfl ?_
          refine wlo 9 10 rfl rfl rfl (wo_run rfl rfl (run_pickF rfl rfl rfl) ?_)
          refine wlm 10 11 rfl rfl rfl rfl rfl rfl rfl ?_
          refine wl_no (k := 11) (k' := 12) (d := 79) rfl rfl ⟨_, _, _, rfl, rfl, rfl, rfl⟩ rfl rfl ?_
          refine wl_no (k := 12) (k' := 13) (d := 80) rfl rfl ⟨_, _, _, rfl, rfl, rfl, rfl⟩ rfl rfl ?_
          refine wl_no (k := 13) (k' := 14) (d := 81) rfl rfl ⟨_, _, _, rfl, rfl, rfl, rfl⟩ rfl rfl ?_
          refine wl_no (k := 14) (k' := 15) (d := 82) rfl rfl ⟨_, _, _, rfl, rfl, rfl, rfl⟩ rfl rfl ?_
          refine wlo 15 16 rfl rfl rfl (wo_run rfl rfl (run_pickF rfl rfl rfl) ?_)
          refine wl_end rfl ?_
          refine nm_sub [(1, _), (2, _), (3, _), (4, _), (9, _), (10, _), (11, _), (12, _), (13, _), (83, _)] ⟨rfl, rfl, rfl, rfl, rfl, rfl, rfl, rfl, rfl, rfl, trivial⟩ ?_
          refine nm_thn ?_
          refine ws_condFN counted_n58 rfl rfl rfl ?_
          refine ws_skip rfl ?_
          refine nm_blk ?_
          refine nm_sub [(1, _), (2, _), (3, _), (4, _), (9, _), (10, _), (11, _), (12, _)] ⟨rfl, rfl, rfl, rfl, rfl, rfl, rfl, rfl, trivial⟩ ?_
          refine nm_thn ?_
          refine ws_region rfl ?_
          refine wlm 0 1 rfl rfl rfl rfl rfl rfl rfl ?_
          refine wlo 1 2 rfl rfl rfl (wo_run rfl rfl (run_add rfl rfl rfl (by first | omega | (simp only [lens]; omega))) ?_)
          refine wla 2 3 rfl rfl rfl rfl rfl rfl rfl ?_
          refine wl_end rfl ?_
          refine nm_lp ?_
          intro ax_ hax_
          refine ⟨_, ?hq17m, ⟨i + 1, ok, rfl, hax_.sub ⟨rfl, rfl, rfl, rfl, rfl, rfl, rfl, rfl, trivial⟩, S130.pick [1, 2] [_, _] (by decide) ⟨rfl, rfl, trivial⟩, ?hq17f0, ?hq17f1, ?hq17f2⟩⟩
          case hq17f0 => omega
          case hq17f1 => first | (intro h9; exact Bool.noConfusion h9) | (intro h9 j hj; by_cases e : j = i; (subst e; refine ⟨fun h1 h2 => ?_, fun h1 h2 h3 => ?_⟩; (unfold eB at h1 ⊢; unfold eD at h2 ⊢; omega); (unfold eA at h1 ⊢; unfold eB at h2 ⊢; unfold eC at h3 ⊢; first | omega | (have h8 := of_decide_eq_true h9; unfold q2; first | (rw [if_pos (by assumption)]; exact h8) | (rw [if_neg (by simp [*])]; exact h8)))); exact hok1 hb37 j (by omega))
          case hq17f2 => first | (intro h9; rw [hb37] at h9; cases h9; done) | (intro h9; exact Bool.noConfusion h9) | (intro _; exact ⟨i, by omega, fun hx => hb67 (hx.1 (by unfold eB; omega) (by unfold eD; omega))⟩) | (intro h9; refine ⟨i, by omega, fun hx => ?_⟩; have h8 := of_decide_eq_false h9; have h7 := hx.2 (by unfold eA; omega) (by unfold eB; omega) (by unfold eC; omega); unfold q2 eA eB eC at h7; first | (rw [if_pos (by assumption)] at h7; exact h8 h7) | (rw [if_neg (by assumption)] at h7; exact h8 h7) | (rw [if_neg (by clear h7 h8 hx; simp [*])] at h7; exact h8 h7))
          case hq17m => omega
       ·replace hg49 := of_decide_eq_false hg49
        refine wa_no (i := 5) (d := 50) 17 rfl (by kernel_rfl) (by kernel_rfl) (by kernel_rfl) ⟨_, _, _, rfl, rfl, rfl, rfl⟩ rfl rfl ?_
        refine wa_no (i := 6) (d := 51) 16 rfl (by kernel_rfl) (by kernel_rfl) (by kernel_rfl) ⟨_, _, _, rfl, rfl, rfl, rfl⟩ rfl rfl ?_
        refine wa_no (i := 7) (d := 52) 15 rfl (by kernel_rfl) (by kernel_rfl) (by kernel_rfl) ⟨_, _, _, rfl, rfl, rfl, rfl⟩ rfl rfl ?_
        refine wa_no (i := 8) (d := 53) 14 rfl (by kernel_rfl) (by kernel_rfl) (by kernel_rfl) ⟨_, _, _, rfl, rfl, rfl, rfl⟩ rfl rfl ?_
        refine wa_takeP (i := 9) (d := 54) 13 rfl (by kernel_rfl) (by kernel_rfl) (by kernel_rfl) rfl rfl rfl (fun w193 => run_pickF rfl rfl rfl) ?_
        refine wa_takeP (i := 10) (d := 55) 12 rfl (by kernel_rfl) (by kernel_rfl) (by kernel_rfl) rfl rfl rfl (fun w194 => run_move rfl rfl) ?_
        refine wa_no (i := 11) (d := 56) 11 rfl (by kernel_rfl) (by kernel_rfl) (by kernel_rfl) ⟨_, _, _, rfl, rfl, rfl, rfl⟩ rfl rfl ?_
        refine wa_no (i := 12) (d := 57) 10 rfl (by kernel_rfl) (by kernel_rfl) (by kernel_rfl) ⟨_, _, _, rfl, rfl, rfl, rfl⟩ rfl rfl ?_
        refine wa_no (i := 13) (d := 58) 9 rfl (by kernel_rfl) (by kernel_rfl) (by kernel_rfl) ⟨_, _, _, rfl, rfl, rfl, rfl⟩ rfl rfl ?_
        refine wa_no (i := 14) (d := 59) 8 rfl (by kernel_rfl) (by kernel_rfl) (by kernel_rfl) ⟨_, _, _, rfl, rfl, rfl, rfl⟩ rfl rfl ?_
        refine wa_no (i := 15) (d := 60) 7 rfl (by kernel_rfl) (by kernel_rfl) (by kernel_rfl) ⟨_, _, _, rfl, rfl, rfl, rfl⟩ rfl rfl ?_
        refine wa_no (i := 16) (d := 61) 6 rfl (by kernel_rfl) (by kernel_rfl) (by kernel_rfl) ⟨_, _, _, rfl, rfl, rfl, rfl⟩ rfl rfl ?_
        refine wa_no (i := 17) (d := 62) 5 rfl (by kernel_rfl) (by kernel_rfl) (by kernel_rfl) ⟨_, _, _, rfl, rfl, rfl, rfl⟩ rfl rfl ?_
        refine wa_no (i := 18) (d := 63) 4 rfl (by kernel_rfl) (by kernel_rfl) (by kernel_rfl) ⟨_, _, _, rfl, rfl, rfl, rfl⟩ rfl rfl ?_
        refine wa_no (i := 19) (d := 64) 3 rfl (by kernel_rfl) (by kernel_rfl) (by kernel_rfl) ⟨_, _, _, rfl, rfl, rfl, rfl⟩ rfl rfl ?_
        refine wa_no (i := 20) (d := 65) 2 rfl (by kernel_rfl) (by kernel_rfl) (by kernel_rfl) ⟨_, _, _, rfl, rfl, rfl, rfl⟩ rfl rfl ?_
        refine wa_no (i := 21) (d := 66) 1 rfl (by kernel_rfl) (by kernel_rfl) (by kernel_rfl) ⟨_, _, _, rfl, rfl, rfl, rfl⟩ rfl rfl ?_
        refine wa_takeP (i := 22) (d := 67) 0 rfl (by kernel_rfl) (by kernel_rfl) (by kernel_rfl) rfl rfl rfl (fun w195 => run_pickF rfl rfl rfl) ?_
        refine wa_end (by kernel_rfl) (fun w196 S196 => ?_)
        refine nm_sub [(1, _), (2, _), (3, _), (4, _), (9, _), (10, _), (11, _), (12, _), (13, _), (67, _)] ⟨rfl, rfl, rfl, rfl, rfl, rfl, rfl, rfl, rfl, rfl, trivial⟩ ?_
        refine nm_thn ?_
        refine ws_condFN counted_n54 rfl rfl rfl ?_
        refine ws_skip rfl ?_
        refine nm_sub [(1, _), (2, _), (3, _), (4, _), (9, _), (10, _), (11, _), (12, _), (13, _)] ⟨rfl, rfl, rfl, rfl, rfl, rfl, rfl, rfl, rfl, trivial⟩ ?_
        refine nm_thn ?_
        refine ws_seqN counted_n55 counted_n56 rfl rfl rfl ?_
        refine ws_region rfl ?_
        refine wlo 0 1 rfl rfl rfl (wo_run rfl rfl (run_fieldAddr rfl rfl Try.underlying59 rfl (ce3) (nf3)) ?_)
        refine wlo 1 2 rfl rfl rfl (wo_run rfl rfl (run_load1 rfl rfl Try.underlying3 rfl (S196.boxc (i := 0) rfl rfl)) ?_)
        refine wlm 2 3 rfl rfl rfl rfl rfl rfl rfl ?_
        refine wlo 3 4 rfl rfl rfl (wo_run rfl rfl (run_leq rfl rfl rfl) ?_)
        refine wlm 4 5 rfl rfl rfl rfl rfl rfl rfl ?_
        refine wl_split (t := 72) rfl (fun hg72 => ?_) (fun hg72 => ?_)
        ·replace hg72 := of_decide_eq_true hg72
         refine wl_opG (k := 5) (k' := 6) rfl rfl ⟨_, _, _, rfl, rfl, rfl, rfl⟩ rfl (wo_run rfl rfl (run_fieldAddr rfl rfl Try.underlying59 rfl (ce3) (nf3)) ?_)
         refine wl_opG (k := 6) (k' := 7) rfl rfl ⟨_, _, _, rfl, rfl, rfl, rfl⟩ rfl (wo_run rfl rfl (run_load1 rfl rfl Try.underlying3 rfl (S196.boxc (i := 0) rfl rfl)) ?_)
         refine wl_opG (k := 7) (k' := 8) rfl rfl ⟨_, _, _, rfl, rfl, rfl, rfl⟩ rfl (wo_run rfl rfl (run_move rfl rfl) ?_)
         refine wl_opG (k := 8) (k' := 9) rfl rfl ⟨_, _, _, rfl, rfl, rfl, rfl⟩ rfl (wo_run rfl rfl (run_leq rfl rfl rfl) ?_)
         refine wlo 9 10 rfl rfl rfl (wo_run rfl rfl (run_pickT rfl rfl rfl) ?_)
         refine wlm 10 11 rfl rfl rfl rfl rfl rfl rfl ?_
         refine wl_split (t := 78) rfl (fun hg78 => ?_) (fun hg78 => ?_)
         ·replace hg78 := of_decide_eq_true hg78
          refine wl_opG (k := 11) (k' := 12) rfl rfl ⟨_, _, _, rfl, rfl, rfl, rfl⟩ rfl (wo_run rfl rfl (run_fieldAddr rfl rfl Try.underlying59 rfl (ce3) (nf3)) ?_)
          refine wl_opG (k := 12) (k' := 13) rfl rfl ⟨_, _, _, rfl, rfl, rfl, rfl⟩ rfl (wo_run rfl rfl (run_load1 rfl rfl Try.underlying3 rfl (S196.boxc (i := 0) rfl rfl)) ?_)
          refine wl_opG (k := 13) (k' := 14) rfl rfl ⟨_, _, _, rfl, rfl, rfl, rfl⟩ rfl (wo_run rfl rfl (run_move rfl rfl) ?_)
          refine wl_opG (k := 14) (k' := 15) rfl rfl ⟨_, _, _, rfl, rfl, rfl, rfl⟩ rfl (wo_run rfl rfl (run_leq rfl rfl rfl) ?_)
          refine wlo 15 16 rfl rfl rfl (wo_run rfl rfl (run_pickT rfl rfl rfl) ?_)
          refine wl_end rfl ?_
          refine nm_sub [(1, _), (2, _), (3, _), (4, _), (9, _), (10, _), (11, _), (12, _), (13, _), (83, _)] ⟨rfl, rfl, rfl, rfl, rfl, rfl, rfl, rfl, rfl, rfl, trivial⟩ ?_
          refine nm_thn ?_
          refine ws_condN counted_n57 counted_n58 rfl rfl rfl rfl (fun hb83 => ?_) (fun hb83 => ?_)
          ·replace hb83 := of_decide_eq_true hb83
           refine ws_seqN counted_n59 counted_n60 rfl rfl rfl ?_
           refine ws_draw rfl (by kernel_rfl) S196 12 rfl ?_
           clear S196
           refine wa_takeP (i := 0) (d := 84) 11 rfl (by kernel_rfl) (by kernel_rfl) (by kernel_rfl) rfl rfl rfl (fun w197 => run_move rfl rfl) ?_
           refine wa_takeP (i := 1) (d := 85) 10 rfl (by kernel_rfl) (by kernel_rfl) (by kernel_rfl) rfl rfl rfl (fun w198 => run_fieldAddr rfl rfl Try.underlying59 rfl (ce3) (nf3)) ?_
           refine wa_take (i := 2) (d := 86) 9 rfl (by kernel_rfl) (by kernel_rfl) (by kernel_rfl) rfl rfl rfl (fun M178 N178 w199 hle180 S199 => .inl (run_load1 rfl rfl Try.underlying3 rfl (S199.suf.boxc (i := 0) rfl rfl))) ?_
           refine wa_take (i := 3) (d := 87) 8 rfl (by kernel_rfl) (by kernel_rfl) (by kernel_rfl) rfl rfl rfl (fun M179 N179 w200 hle181 S200 => .inl (run_indexR (C := cdInt) (i := 2) (((ga d.crs i).a).toNat) rfl rfl rfl sl33 S200.suf rfl (by first | rfl | omega) (by first | omega | (simp only [lens]; omega)))) ?_
           refine wa_take (i := 4) (d := 88) 7 rfl (by kernel_rfl) (by kernel_rfl) (by kernel_rfl) rfl rfl rfl (fun M180 N180 w201 hle182 S201 => .inl (run_load1 rfl rfl Try.underlying3 rfl (S201.suf.rowc (i := 2) (e := ((ga d.crs i).a).toNat) (j := 0) rfl (by first | omega | (simp only [lens]; omega)) rfl rfl))) ?_
           refine wa_takeP (i := 5) (d := 89) 6 rfl (by kernel_rfl) (by kernel_rfl) (by kernel_rfl) rfl rfl rfl (fun w202 => run_move rfl rfl) ?_
           refine wa_takeP (i := 6) (d := 90) 5 rfl (by kernel_rfl) (by kernel_rfl) (by kernel_rfl) rfl rfl rfl (fun w203 => run_fieldAddr rfl rfl Try.underlying59 rfl (ce3) (nf3)) ?_
           refine wa_take (i := 7) (d := 91) 4 rfl (by kernel_rfl) (by kernel_rfl) (by kernel_rfl) rfl rfl rfl (fun M183 N183 w204 hle185 S204 => .inl (run_load1 rfl rfl Try.underlying3 rfl (S204.suf.boxc (i := 0) rfl rfl))) ?_
           refine wa_take (i := 8) (d := 92) 3 rfl (by kernel_rfl) (by kernel_rfl) (by kernel_rfl) rfl rfl rfl (fun M184 N184 w205 hle186 S205 => .inl (run_indexR (C := cdInt) (i := 2) (((ga d.crs i).c).toNat) rfl rfl rfl sl33 S205.suf rfl (by first | rfl | omega) (by first | omega | (simp only [lens]; omega)))) ?_
           refine wa_take (i := 9) (d := 93) 2 rfl (by kernel_rfl) (by kernel_rfl) (by kernel_rfl) rfl rfl rfl (fun M185 N185 w206 hle187 S206 => .inl (run_load1 rfl rfl Try.underlying3 rfl (S206.suf.rowc (i := 2) (e := ((ga d.crs i).c).toNat) (j := 0) rfl (by first | omega | (simp only [lens]; omega)) rfl rfl))) ?_
           refine wa_takeP (i := 10) (d := 14) 1 rfl (by kernel_rfl) (by kernel_rfl) (by kernel_rfl) rfl rfl rfl (fun w207 => run_assign rfl rfl) ?_
           refine wa_takeP (i := 11) (d := 15) 0 rfl (by kernel_rfl) (by kernel_rfl) (by kernel_rfl) rfl rfl rfl (fun w208 => run_assign rfl rfl) ?_
           refine wa_end (by kernel_rfl) (fun w209 S209 => ?_)
           refine nm_sub [(1, _), (2, _), (3, _), (4, _), (9, _), (10, _), (11, _), (12, _), (13, _), (14, _), (15, _)] ⟨rfl, rfl, rfl, rfl, rfl, rfl, rfl, rfl, rfl, rfl, rfl, trivial⟩ ?_
           refine nm_thn ?_
           refine ws_seqN counted_n61 counted_n62 rfl rfl rfl ?_
           refine ws_seqN counted_n63 counted_n64 rfl rfl rfl ?_
           refine ws_region rfl ?_
           refine wlo 0 1 rfl rfl rfl (wo_run rfl rfl (run_fieldAddr rfl rfl Try.underlying59 rfl (ce4) (nf4)) ?_)
           refine wlo 1 2 rfl rfl rfl (wo_run rfl rfl (run_load1 rfl rfl Try.underlying4 rfl (S209.boxc (i := 0) rfl rfl)) ?_)
           refine wlo 2 3 rfl rfl rfl (wo_run rfl rfl (run_not rfl rfl) ?_)
           refine wl_end rfl ?_
           refine nm_sub [(1, _), (2, _), (3, _), (4, _), (9, _), (10, _), (11, _), (12, _), (13, _), (14, _), (15, _), (96, _)] ⟨rfl, rfl, rfl, rfl, rfl, rfl, rfl, rfl, rfl, rfl, rfl, rfl, trivial⟩ ?_
           refine nm_thn ?_
           refine ws_condN counted_n65 counted_n66 rfl rfl rfl rfl (fun hb96 => ?_) (fun hb96 => ?_)
           ·simp only [Bool.and_eq_true, Bool.or_eq_true, Bool.and_eq_false_iff, Bool.or_eq_false_iff, decide_eq_true_eq, decide_eq_false_iff_not, Bool.not_eq_true', Bool.not_eq_false'] at hb96
            refine ws_draw rfl (by kernel_rfl) S209 12 rfl ?_
            clear S209
            refine wa_takeP (i := 0) (d := 97) 11 rfl (by kernel_rfl) (by kernel_rfl) (by kernel_rfl) rfl rfl rfl (fun w210 => run_move rfl rfl) ?_
            refine wa_takeP (i := 1) (d := 98) 10 rfl (by kernel_rfl) (by kernel_rfl) (by kernel_rfl) rfl rfl rfl (fun w211 => run_fieldAddr rfl rfl Try.underlying59 rfl (ce3) (nf3)) ?_
            refine wa_take (i := 2) (d := 99) 9 rfl (by kernel_rfl) (by kernel_rfl) (by kernel_rfl) rfl rfl rfl (fun M190 N190 w212 hle192 S212 => .inl (run_load1 rfl rfl Try.underlying3 rfl (S212.suf.boxc (i := 0) rfl rfl))) ?_
            refine wa_take (i := 3) (d := 100) 8 rfl (by kernel_rfl) (by kernel_rfl) (by kernel_rfl) rfl rfl rfl (fun M191 N191 w213 hle193 S213 => .inl (run_indexR (C := cdInt) (i := 2) (((ga d.crs i).c).toNat) rfl rfl rfl sl33 S213.suf rfl (by first | rfl | omega) (by first | omega | (simp only [lens]; omega)))) ?_
            refine wa_take (i := 4) (d := 101) 7 rfl (by kernel_rfl) (by kernel_rfl) (by kernel_rfl) rfl rfl rfl (fun M192 N192 w214 hle194 S214 => .inl (run_load1 rfl rfl Try.underlying3 rfl (S214.suf.rowc (i := 2) (e := ((ga d.crs i).c).toNat) (j := 0) rfl (by first | omega | (simp only [lens]; omega)) rfl rfl))) ?_
            refine wa_takeP (i := 5) (d := 102) 6 rfl (by kernel_rfl) (by kernel_rfl) (by kernel_rfl) rfl rfl rfl (fun w215 => run_move rfl rfl) ?_
            refine wa_takeP (i := 6) (d := 103) 5 rfl (by kernel_rfl) (by kernel_rfl) (by kernel_rfl) rfl rfl rfl (fun w216 => run_fieldAddr rfl rfl Try.underlying59 rfl (ce3) (nf3)) ?_
            refine wa_take (i := 7) (d := 104) 4 rfl (by kernel_rfl) (by kernel_rfl) (by kernel_rfl) rfl rfl rfl (fun M195 N195 w217 hle197 S217 => .inl (run_load1 rfl rfl Try.underlying3 rfl (S217.suf.boxc (i := 0) rfl rfl))) ?_
            refine wa_take (i := 8) (d := 105) 3 rfl (by kernel_rfl) (by kernel_rfl) (by kernel_rfl) rfl rfl rfl (fun M196 N196 w218 hle198 S218 => .inl (run_indexR (C := cdInt) (i := 2) (((ga d.crs i).a).toNat) rfl rfl rfl sl33 S218.suf rfl (by first | rfl | omega) (by first | omega | (simp only [lens]; omega)))) ?_
            refine wa_take (i := 9) (d := 106) 2 rfl (by kernel_rfl) (by kernel_rfl) (by kernel_rfl) rfl rfl rfl (fun M197 N197 w219 hle199 S219 => .inl (run_load1 rfl rfl Try.underlying3 rfl (S219.suf.rowc (i := 2) (e := ((ga d.crs i).a).toNat) (j := 0) rfl (by first | omega | (simp only [lens]; omega)) rfl rfl))) ?_
            refine wa_takeP (i := 10) (d := 14) 1 rfl (by kernel_rfl) (by kernel_rfl) (by kernel_rfl) rfl rfl rfl (fun w220 => run_assign rfl rfl) ?_
            refine wa_takeP (i := 11) (d := 15) 0 rfl (by kernel_rfl) (by kernel_rfl) (by kernel_rfl) rfl rfl rfl (fun w221 => run_assign rfl rfl) ?_
            refine wa_end (by kernel_rfl) (fun w222 S222 => ?_)
            refine nm_sub [(1, _), (2, _), (3, _), (4, _), (9, _), (10, _), (11, _), (12, _), (13, _), (14, _), (15, _)] ⟨rfl, rfl, rfl, rfl, rfl, rfl, rfl, rfl, rfl, rfl, rfl, trivial⟩ ?_
            refine nm_thn ?_
            refine ws_draw rfl (by kernel_rfl) S222 17 rfl ?_
            clear S222
            refine wa_takeP (i := 0) (d := 107) 16 rfl (by kernel_rfl) (by kernel_rfl) (by kernel_rfl) rfl rfl rfl (fun w223 => run_move rfl rfl) ?_
            refine wa_takeP (i := 1) (d := 108) 15 rfl (by kernel_rfl) (by kernel_rfl) (by kernel_rfl) rfl rfl rfl (fun w224 => run_move rfl rfl) ?_
            refine wa_split (t := 108) rfl (fun hg108 => ?_) (fun hg108 => ?_)
            ·refine wa_takeP (i := 2) (d := 109) 14 rfl (by kernel_rfl) (by kernel_rfl) (by kernel_rfl) ⟨_, _, _, rfl, rfl, rfl, rfl⟩ rfl rfl (fun w225 => run_move rfl rfl) ?_
             refine wa_takeP (i := 3) (d := 110) 13 rfl (by kernel_rfl) (by kernel_rfl) (by kernel_rfl) ⟨_, _, _, rfl, rfl, rfl, rfl⟩ rfl rfl (fun w226 => run_move rfl rfl) ?_
             refine wa_take (i := 4) (d := 111) 12 rfl (by kernel_rfl) (by kernel_rfl) (by kernel_rfl) ⟨_, _, _, rfl, rfl, rfl, rfl⟩ rfl rfl (fun M204 N204 w227 hle206 S227 => .inl (run_indexM (C := (cdV 33)) ((ga l2 (((ga d.crs i).c).toNat)).toNat) rfl rfl rfl sl34 (by first | rfl | omega) (hq.mono (Hp.un_mono hle206 S227.mx)) (by first | omega | (simp only [lens]; omega)))) ?_
             obtain ⟨hn5, hr5⟩ := hdq.2 ((ga l2 (((ga d.crs i).c).toNat)).toNat) (by first | omega | (simp only [lens]; omega))
             have rmhr5 : (ga q ((ga l2 (((ga d.crs i).c).toNat)).toNat)).length * 8 ≤ 140737488355328 := hr5.room
             refine wa_take (i := 5) (d := 112) 11 rfl (by kernel_rfl) (by kernel_rfl) (by kernel_rfl) ⟨_, _, _, rfl, rfl, rfl, rfl⟩ rfl rfl (fun M205 N205 w228 hle207 S228 => .inl (run_load1 rfl rfl Try.underlying33 rfl ((hq.mono (Hp.un_mono hle207 S228.mx)).cell S228.um (i := (ga l2 (((ga d.crs i).c).toNat)).toNat) (by first | omega | (simp only [lens]; omega)) 0 rfl (congrArg (fun n => some (Value.slice _ n _)) hn5)))) ?_
             refine wa_takeP (i := 6) (d := 113) 10 rfl (by kernel_rfl) (by kernel_rfl) (by kernel_rfl) ⟨_, _, _, rfl, rfl, rfl, rfl⟩ rfl rfl (fun w229 => run_move rfl rfl) ?_
             refine wa_takeP (i := 7) (d := 114) 9 rfl (by kernel_rfl) (by kernel_rfl) (by kernel_rfl) ⟨_, _, _, rfl, rfl, rfl, rfl⟩ rfl rfl (fun w230 => run_fieldAddr rfl rfl Try.underlying59 rfl (ce3) (nf3)) ?_
             refine wa_take (i := 8) (d := 115) 8 rfl (by kernel_rfl) (by kernel_rfl) (by kernel_rfl) ⟨_, _, _, rfl, rfl, rfl, rfl⟩ rfl rfl (fun M208 N208 w231 hle210 S231 => .inl (run_load1 rfl rfl Try.underlying3 rfl (S231.suf.boxc (i := 0) rfl rfl))) ?_
             refine wa_take (i := 9) (d := 116) 7 rfl (by kernel_rfl) (by kernel_rfl) (by kernel_rfl) ⟨_, _, _, rfl, rfl, rfl, rfl⟩ rfl rfl (fun M209 N209 w232 hle211 S232 => .inl (run_indexR (C := cdInt) (i := 2) (((ga d.crs i).b).toNat) rfl rfl rfl sl33 S232.suf rfl (by first | rfl | omega) (by first | omega | (simp only [lens]; omega)))) ?_
             refine wa_take (i := 10) (d := 117) 6 rfl (by kernel_rfl) (by kernel_rfl) (by kernel_rfl) ⟨_, _, _, rfl, rfl, rfl, rfl⟩ rfl rfl (fun M210 N210 w233 hle212 S233 => .inl (run_load1 rfl rfl Try.underlying3 rfl (S233.suf.rowc (i := 2) (e := ((ga d.crs i).b).toNat) (j := 0) rfl (by first | omega | (simp only [lens]; omega)) rfl rfl))) ?_
             refine wa_take (i := 11) (d := 118) 5 rfl (by kernel_rfl) (by kernel_rfl) (by kernel_rfl) ⟨_, _, _, rfl, rfl, rfl, rfl⟩ rfl rfl (fun M211 N211 w234 hle213 S234 => .inl (run_indexM (C := cdInt) ((ga l2 (((ga d.crs i).b).toNat)).toNat) rfl rfl rfl sl33 (by first | rfl | omega) (hr5.mono (Hp.un_mono hle213 S234.mx)) (by first | omega | (simp only [lens]; omega)))) ?_
             refine wa_take (i := 12) (d := 119) 4 rfl (by kernel_rfl) (by kernel_rfl) (by kernel_rfl) ⟨_, _, _, rfl, rfl, rfl, rfl⟩ rfl rfl (fun M212 N212 w235 hle214 S235 => .inl (run_load1 rfl rfl Try.underlying3 rfl ((hr5.mono (Hp.un_mono hle214 S235.mx)).cell S235.um (i := (ga l2 (((ga d.crs i).b).toNat)).toNat) (by first | omega | (simp only [lens]; omega)) 0 rfl rfl))) ?_
             refine wa_takeP (i := 13) (d := 120) 3 rfl (by kernel_rfl) (by kernel_rfl) (by kernel_rfl) ⟨_, _, _, rfl, rfl, rfl, rfl⟩ rfl rfl (fun w236 => run_move rfl rfl) ?_
             refine wa_takeP (i := 14) (d := 121) 2 rfl (by kernel_rfl) (by kernel_rfl) (by kernel_rfl) ⟨_, _, _, rfl, rfl, rfl, rfl⟩ rfl rfl (fun w237 => run_eql rfl rfl rfl) ?_
             refine wa_takeP (i := 15) (d := 122) 1 rfl (by kernel_rfl) (by kernel_rfl) (by kernel_rfl) rfl rfl rfl (fun w238 => run_pickT rfl rfl rfl) ?_
             refine wa_takeP (i := 16) (d := 11) 0 rfl (by kernel_rfl) (by kernel_rfl) (by kernel_rfl) rfl rfl rfl (fun w239 => run_assign rfl rfl) ?_
             refine wa_end (by kernel_rfl) (fun w240 S240 => ?_)
             refine nm_blk ?_
             refine nm_sub [(1, _), (2, _), (3, _), (4, _), (9, _), (10, _), (11, _), (12, _)] ⟨rfl, rfl, rfl, rfl, rfl, rfl, rfl, rfl, trivial⟩ ?_
             refine nm_thn ?_
             refine ws_region rfl ?_
             refine wlm 0 1 rfl rfl rfl rfl rfl rfl rfl ?_
             refine wlo 1 2 rfl rfl rfl (wo_run rfl rfl (run_add rfl rfl rfl (by first | omega | (simp only [lens]; omega))) ?_)
             refine wla 2 3 rfl rfl rfl rfl rfl rfl rfl ?_
             refine wl_end rfl ?_
             refine nm_lp ?_
             intro ax_ hax_
             refine ⟨_, ?hq18m, ⟨i + 1, decide ((ga (ga q ((ga l2 (((ga d.crs i).c).toNat)).toNat)) ((ga l2 (((ga d.crs i).b).toNat)).toNat)) = (ga l2 (((ga d.crs i).a).toNat))), rfl, hax_.sub ⟨rfl, rfl, rfl, rfl, rfl, rfl, rfl, rfl, trivial⟩, S240.pick [1, 2] [_, _] (by decide) ⟨rfl, rfl, trivial⟩, ?hq18f0, ?hq18f1, ?hq18f2⟩⟩
             case hq18f0 => omega
             case hq18f1 => first | (intro h9; exact Bool.noConfusion h9) | (intro h9 j hj; by_cases e : j = i; (subst e; refine ⟨fun h1 h2 => ?_, fun h1 h2 h3 => ?_⟩; (unfold eB at h1 ⊢; unfold eD at h2 ⊢; omega); (unfold eA at h1 ⊢; unfold eB at h2 ⊢; unfold eC at h3 ⊢; first | omega | (have h8 := of_decide_eq_true h9; unfold q2; first | (rw [if_pos (by assumption)]; exact h8) | (rw [if_neg (by simp [*])]; exact h8)))); exact hok1 hb37 j (by omega))
             case hq18f2 => first | (intro h9; rw [hb37] at h9; cases h9; done) | (intro h9; exact Bool.noConfusion h9) | (intro _; exact ⟨i, by omega, fun hx => hb67 (hx.1 (by unfold eB; omega) (by unfold eD; omega))⟩) | (intro h9; refine ⟨i, by omega, fun hx => ?_⟩; have h8 := of_decide_eq_false h9; have h7 := hx.2 (by unfold eA; omega) (by unfold eB; omega) (by unfold eC; omega); unfold q2 eA eB eC at h7; first | (rw [if_pos (by assumption)] at h7; exact h8 h7) | (rw [if_neg (by assumption)] at h7; exact h8 h7) | (rw [if_neg (by clear h7 h8 hx; simp [*])] at h7; exact h8 h7))
             case hq18m => omega
            ·exfalso; (rw [hb37] at hg108; cases hg108)
           ·simp only [Bool.and_eq_true, Bool.or_eq_true, Bool.and_eq_false_iff, Bool.or_eq_false_iff, decide_eq_true_eq, decide_eq_false_iff_not, Bool.not_eq_true', Bool.not_eq_false'] at hb96
            refine ws_skip rfl ?_
            refine nm_sub [(1, _), (2, _), (3, _), (4, _), (9, _), (10, _), (11, _), (12, _), (13, _), (14, _), (15, _)] ⟨rfl, rfl, rfl, rfl, rfl, rfl, rfl, rfl, rfl, rfl, rfl, trivial⟩ ?_
            refine nm_thn ?_
            refine ws_draw rfl (by kernel_rfl) S209 17 rfl ?_
            clear S209
            refine wa_takeP (i := 0) (d := 107) 16 rfl (by kernel_rfl) (by kernel_rfl) (by kernel_rfl) rfl rfl rfl (fun w241 => run_move rfl rfl) ?_
            refine wa_takeP (i := 1) (d := 108) 15 rfl (by kernel_rfl) (by kernel_rfl) (by kernel_rfl) rfl rfl rfl (fun w242 => run_move rfl rfl) ?_
            refine wa_split (t := 108) rfl (fun hg108 => ?_) (fun hg108 => ?_)
            ·refine wa_takeP (i := 2) (d := 109) 14 rfl (by kernel_rfl) (by kernel_rfl) (by kernel_rfl) ⟨_, _, _, rfl, rfl, rfl, rfl⟩ rfl rfl (fun w243 => run_move rfl rfl) ?_
             refine wa_takeP (i := 3) (d := 110) 13 rfl (by kernel_rfl) (by kernel_rfl) (by kernel_rfl) ⟨_, _, _, rfl, rfl, rfl, rfl⟩ rfl rfl (fun w244 => run_move rfl rfl) ?_
             refine wa_take (i := 4) (d := 111) 12 rfl (by kernel_rfl) (by kernel_rfl) (by kernel_rfl) ⟨_, _, _, rfl, rfl, rfl, rfl⟩ rfl rfl (fun M221 N221 w245 hle223 S245 => .inl (run_indexM (C := (cdV 33)) ((ga l2 (((ga d.crs i).a).toNat)).toNat) rfl rfl rfl sl34 (by first | rfl | omega) (hq.mono (Hp.un_mono hle223 S245.mx)) (by first | omega | (simp only [lens]; omega)))) ?_
             obtain ⟨hn6, hr6⟩ := hdq.2 ((ga l2 (((ga d.crs i).a).toNat)).toNat) (by first | omega | (simp only [lens]; omega))
             have rmhr6 : (ga q ((ga l2 (((ga d.crs i).a).toNat)).toNat)).length * 8 ≤ 140737488355328 := hr6.room
             refine wa_take (i := 5) (d := 112) 11 rfl (by kernel_rfl) (by kernel_rfl) (by kernel_rfl) ⟨_, _, _, rfl, rfl, rfl, rfl⟩ rfl rfl (fun M222 N222 w246 hle224 S246 => .inl (run_load1 rfl rfl Try.underlying33 rfl ((hq.mono (Hp.un_mono hle224 S246.mx)).cell S246.um (i := (ga l2 (((ga d.crs i).a).toNat)).toNat) (by first | omega | (simp only [lens]; omega)) 0 rfl (congrArg (fun n => some (Value.slice _ n _)) hn6)))) ?_
             refine wa_takeP (i := 6) (d := 113) 10 rfl (by kernel_rfl) (by kernel_rfl) (by kernel_rfl) ⟨_, _, _, rfl, rfl, rfl, rfl⟩ rfl rfl (fun w247 => run_move rfl rfl) ?_
             refine wa_takeP (i := 7) (d := 114) 9 rfl (by kernel_rfl) (by kernel_rfl) (by kernel_rfl) ⟨_, _, _, rfl, rfl, rfl, rfl⟩ rfl rfl (fun w248 => run_fieldAddr rfl rfl Try.underlying59 rfl (ce3) (nf3)) ?_
             refine wa_take (i := 8) (d := 115) 8 rfl (by kernel_rfl) (by kernel_rfl) (by kernel_rfl) ⟨_, _, _, rfl, rfl, rfl, rfl⟩ rfl rfl (fun M225 N225 w249 hle227 S249 => .inl (run_load1 rfl rfl Try.underlying3 rfl (S249.suf.boxc (i := 0) rfl rfl))) ?_
             refine wa_take (i := 9) (d := 116) 7 rfl (by kernel_rfl) (by kernel_rfl) (by kernel_rfl) ⟨_, _, _, rfl, rfl, rfl, rfl⟩ rfl rfl (fun M226 N226 w250 hle228 S250 => .inl (run_indexR (C := cdInt) (i := 2) (((ga d.crs i).b).toNat) rfl rfl rfl sl33 S250.suf rfl (by first | rfl | omega) (by first | omega | (simp only [lens]; omega)))) ?_
             refine wa_take (i := 10) (d := 117) 6 rfl (by kernel_rfl) (by kernel_rfl) (by kernel_rfl) ⟨_, _, _, rfl, rfl, rfl, rfl⟩ rfl rfl (fun M227 N227 w251 hle229 S251 => .inl (run_load1 rfl rfl Try.underlying3 rfl (S251.suf.rowc (i := 2) (e := ((ga d.crs i).b).toNat) (j := 0) rfl (by first | omega | (simp only [lens]; omega)) rfl rfl))) ?_
             refine wa_take (i := 11) (d := 118) 5 rfl (by kernel_rfl) (by kernel_rfl) (by kernel_rfl) ⟨_, _, _, rfl, rfl, rfl, rfl⟩ rfl rfl (fun M228 N228 w252 hle230 S252 => .inl (run_indexM (C := cdInt) ((ga l2 (((ga d.crs i).b).toNat)).toNat) rfl rfl rfl sl33 (by first | rfl | omega) (hr6.mono (Hp.un_mono hle230 S252.mx)) (by first | omega | (simp only [lens]; omega)))) ?_
             refine wa_take (i := 12) (d := 119) 4 rfl (by kernel_rfl) (by kernel_rfl) (by kernel_rfl) ⟨_, _, _, rfl, rfl, rfl, rfl⟩ rfl rfl (fun M229 N229 w253 hle231 S253 => .inl (run_load1 rfl rfl Try.underlying3 rfl ((hr6.mono (Hp.un_mono hle231 S253.mx)).cell S253.um (i := (ga l2 (((ga d.crs i).b).toNat)).toNat) (by first | omega | (simp only [lens]; omega)) 0 rfl rfl))) ?_
             refine wa_takeP (i := 13) (d := 120) 3 rfl (by kernel_rfl) (by kernel_rfl) (by kernel_rfl) ⟨_, _, _, rfl, rfl, rfl, rfl⟩ rfl rfl (fun w254 => run_move rfl rfl) ?_
             refine wa_takeP (i := 14) (d := 121) 2 rfl (by kernel_rfl) (by kernel_rfl) (by kernel_rfl) ⟨_, _, _, rfl, rfl, rfl, rfl⟩ rfl rfl (fun w255 => run_eql rfl rfl rfl) ?_
             refine wa_takeP (i := 15) (d := 122) 1 rfl (by kernel_rfl) (by kernel_rfl) (by kernel_rfl) rfl rfl rfl (fun w256 => run_pickT rfl rfl rfl) ?_
             refine wa_takeP (i := 16) (d := 11) 0 rfl (by kernel_rfl) (by kernel_rfl) (by kernel_rfl) rfl rfl rfl (fun w257 => run_assign rfl rfl) ?_
             refine wa_end (by kernel_rfl) (fun w258 S258 => ?_)
             refine nm_blk ?_
             refine nm_sub [(1, _), (2, _), (3, _), (4, _), (9, _), (10, _), (11, _), (12, _)] ⟨rfl, rfl, rfl, rfl, rfl, rfl, rfl, rfl, trivial⟩ ?_
             refine nm_thn ?_
             refine ws_region rfl ?_
             refine wlm 0 1 rfl rfl rfl rfl rfl rfl rfl ?_
             refine wlo 1 2 rfl rfl rfl (wo_run rfl rfl (run_add rfl rfl rfl (by first | omega | (simp only [lens]; omega))) ?_)
             refine wla 2 3 rfl rfl rfl rfl rfl rfl rfl ?_
             refine wl_end rfl ?_
             refine nm_lp ?_
             intro ax_ hax_
             refine ⟨_, ?hq19m, ⟨i + 1, decide ((ga (ga q ((ga l2 (((ga d.crs i).a).toNat)).toNat)) ((ga l2 (((ga d.crs i).b).toNat)).toNat)) = (ga l2 (((ga d.crs i).c).toNat))), rfl, hax_.sub ⟨rfl, rfl, rfl, rfl, rfl, rfl, rfl, rfl, trivial⟩, S258.pick [1, 2] [_, _] (by decide) ⟨rfl, rfl, trivial⟩, ?hq19f0, ?hq19f1, ?hq19f2⟩⟩
             case hq19f0 => omega
             case hq19f1 => first | (intro h9; exact Bool.noConfusion h9) | (intro h9 j hj; by_cases e : j = i; (subst e; refine ⟨fun h1 h2 => ?_, fun h1 h2 h3 => ?_⟩; (unfold eB at h1 ⊢; unfold eD at h2 ⊢; omega); (unfold eA at h1 ⊢; unfold eB at h2 ⊢; unfold eC at h3 ⊢; first | omega | (have h8 := of_decide_eq_true h9; unfold q2; first | (rw [if_pos (by assumption)]; exact h8) | (rw [if_neg (by simp [*])]; exact h8)))); exact hok1 hb37 j (by omega))
             case hq19f2 => first | (intro h9; rw [hb37] at h9; cases h9; done) | (intro h9; exact Bool.noConfusion h9) | (intro _; exact ⟨i, by omega, fun hx => hb67 (hx.1 (by unfold eB; omega) (by unfold eD; omega))⟩) | (intro h9; refine ⟨i, by omega, fun hx => ?_⟩; have h8 := of_decide_eq_false h9; have h7 := hx.2 (by unfold eA; omega) (by unfold eB; omega) (by unfold eC; omega); unfold q2 eA eB eC at h7; first | (rw [if_pos (by assumption)] at h7; exact h8 h7) | (rw [if_neg (by assumption)] at h7; exact h8 h7) | (rw [if_neg (by clear h7 h8 hx; simp [*])] at h7; exact h8 h7))
             case hq19m => omega
            ·exfalso; (rw [hb37] at hg108; cases hg108)
          ·replace hb83 := of_decide_eq_false hb83
           refine ws_skip rfl ?_
           refine nm_blk ?_
           refine nm_sub [(1, _), (2, _), (3, _), (4, _), (9, _), (10, _), (11, _), (12, _)] ⟨rfl, rfl, rfl, rfl, rfl, rfl, rfl, rfl, trivial⟩ ?_
           refine nm_thn ?_
           refine ws_region rfl ?_
           refine wlm 0 1 rfl rfl rfl rfl rfl rfl rfl ?_
           refine wlo 1 2 rfl rfl rfl (wo_run rfl rfl (run_add rfl rfl rfl (by first | omega | (simp only [lens]; omega))) ?_)
           refine wla 2 3 rfl rfl rfl rfl rfl rfl rfl ?_
           refine wl_end rfl ?_
           refine nm_lp ?_
           intro ax_ hax_
           refine ⟨_, ?hq20m, ⟨i + 1, ok, rfl, hax_.sub ⟨rfl, rfl, rfl, rfl, rfl, rfl, rfl, rfl, trivial⟩, S196.pick [1, 2] [_, _] (by decide) ⟨rfl, rfl, trivial⟩, ?hq20f0, ?hq20f1, ?hq20f2⟩⟩
           case hq20f0 => omega
           case hq20f1 => first | (intro h9; exact Bool.noConfusion h9) | (intro h9 j hj; by_cases e : j = i; (subst e; refine ⟨fun h1 h2 => ?_, fun h1 h2 h3 => ?_⟩; (unfold eB at h1 ⊢; unfold eD at h2 ⊢; omega); (unfold eA at h1 ⊢; unfold eB at h2 ⊢; unfold eC at h3 ⊢; first | omega | (have h8 := of_decide_eq_true h9; unfold q2; first | (rw [if_pos (by assumption)]; exact h8) | (rw [if_neg (by simp [*])]; exact h8)))); exact hok1 hb37 j (by omega))
           case hq20f2 => first | (intro h9; rw [hb37] at h9; cases h9; done) | (intro h9; exact Bool.noConfusion h9) | (intro _; exact ⟨i, by omega, fun hx => hb67 (hx.1 (by unfold eB; omega) (by unfold eD; omega))⟩) | (intro h9; refine ⟨i, by omega, fun hx => ?_⟩; have h8 := of_decide_eq_false h9; have h7 := hx.2 (by unfold eA; omega) (by unfold eB; omega) (by unfold eC; omega); unfold q2 eA eB eC at h7; first | (rw [if_pos (by assumption)] at h7; exact h8 h7) | (rw [if_neg (by assumption)] at h7; exact h8 h7) | (rw [if_neg (by clear h7 h8 hx; simp [*])] at h7; exact h8 h7))
           case hq20m => omega
         ·replace hg78 := of_decide_eq_false hg78
          refine wl_no (k := 11) (k' := 12) (d := 79) rfl rfl ⟨_, _, _, rfl, rfl, rfl, rfl⟩ rfl rfl ?_
          refine wl_no (k := 12) (k' := 13) (d := 80) rfl rfl ⟨_, _, _, rfl, rfl, rfl, rfl⟩ rfl rfl ?_
          refine wl_no (k := 13) (k' := 14) (d := 81) rfl rfl ⟨_, _, _, rfl, rfl, rfl, rfl⟩ rfl rfl ?_
          refine wl_no (k := 14) (k' := 15) (d := 82) rfl rfl ⟨_, _, _, rfl, rfl, rfl, rfl⟩ rfl rfl ?_
          refine wlo 15 16 rfl rfl rfl (wo_run rfl rfl (run_pickF rfl rfl rfl) ?_)
          refine wl_end rfl ?_
          refine nm_sub [(1, _), (2, _), (3, _), (4, _), (9, _), (10, _), (11, _), (12, _), (13, _), (83, _)] ⟨rfl, rfl, rfl, rfl, rfl, rfl, rfl, rfl, rfl, rfl, trivial⟩ ?_
          refine nm_thn ?_
          refine ws_condFN counted_n58 rfl rfl rfl ?_
          refine ws_skip rfl ?_
          refine nm_blk ?_
          refine nm_sub [(1, _), (2, _), (3, _), (4, _), (9, _), (10, _), (11, _), (12, _)] ⟨rfl, rfl, rfl, rfl, rfl, rfl, rfl, rfl, trivial⟩ ?_
          refine nm_thn ?_
          refine ws_region rfl ?_
          refine wlm 0 1 rfl rfl rfl rfl rfl rfl rfl ?_
          refine wlo 1 2 rfl rfl rfl (wo_run rfl rfl (run_add rfl rfl rfl (by first | omega | (simp only [lens]; omega))) ?_)
          refine wla 2 3 rfl rfl rfl rfl rfl rfl rfl ?_
          refine wl_end rfl ?_
          refine nm_lp ?_
          intro ax_ hax_
          refine ⟨_, ?hq21m, ⟨i + 1, ok, rfl, hax_.sub ⟨rfl, rfl, rfl, rfl, rfl, rfl, rfl, rfl, trivial⟩, S196.pick [1, 2] [_, _] (by decide) ⟨rfl, rfl, trivial⟩, ?hq21f0, ?hq21f1, ?hq21f2⟩⟩
          case hq21f0 => omega
          case hq21f1 => first | (intro h9; exact Bool.noConfusion h9) | (intro h9 j hj; by_cases e : j = i; (subst e; refine ⟨fun h1 h2 => ?_, fun h1 h2 h3 => ?_⟩; (unfold eB at h1 ⊢; unfold eD at h2 ⊢; omega); (unfold eA at h1 ⊢; unfold eB at h2 ⊢; unfold eC at h3 ⊢; first | omega | (have h8 := of_decide_eq_true h9; unfold q2; first | (rw [if_pos (by assumption)]; exact h8) | (rw [if_neg (by simp [*])]; exact h8)))); exact hok1 hb37 j (by omega))
          case hq21f2 => first | (intro h9; rw [hb37] at h9; cases h9; done) | (intro h9; exact Bool.noConfusion h9) | (intro _; exact ⟨i, by omega, fun hx => hb67 (hx.1 (by unfold eB; omega) (by unfold eD; omega))⟩) | (intro h9; refine ⟨i, by omega, fun hx => ?_⟩; have h8 := of_decide_eq_false h9; have h7 := hx.2 (by unfold eA; omega) (by unfold eB; omega) (by unfold eC; omega); unfold q2 eA eB eC at h7; first | (rw [if_pos (by assumption)] at h7; exact h8 h7) | (rw [if_neg (by assumption)] at h7; exact h8 h7) | (rw [if_neg (by clear h7 h8 hx; simp [*])] at h7; exact h8 h7))
          case hq21m => omega
        ·replace hg72 := of_decide_eq_false hg72
         refine wl_no (k := 5) (k' := 6) (d := 73) rfl rfl ⟨_, _, _, rfl, rfl, rfl, rfl⟩ rfl rfl ?_
         refine wl_no (k := 6) (k' := 7) (d := 74) rfl rfl ⟨_, _, _, rfl, rfl, rfl, rfl⟩ rfl rfl ?_
         refine wl_no (k := 7) (k' := 8) (d := 75) rfl rfl ⟨_, _, _, rfl, rfl, rfl, rfl⟩ rfl rfl ?_
         refine wl_no (k := 8) (k' := 9) (d := 76) rfl rfl ⟨_, _, _, rfl, rfl, rfl, rfl⟩ rfl rfl ?_
         refine wlo 9 10 rfl rfl rfl (wo_run rfl rfl (run_pickF rfl rfl rfl) ?_)
         refine wlm 10 11 rfl rfl rfl rfl rfl rfl rfl ?_
         refine wl_no (k := 11) (k' := 12) (d := 79) rfl rfl ⟨_, _, _, rfl, rfl, rfl, rfl⟩ rfl rfl ?_
         refine wl_no (k := 12) (k' := 13) (d := 80) rfl rfl ⟨_, _, _, rfl, rfl, rfl, rfl⟩ rfl rfl ?_
         refine wl_no (k := 13) (k' := 14) (d := 81) rfl rfl ⟨_, _, _, rfl, rfl, rfl, rfl⟩ rfl rfl ?_
         refine wl_no (k := 14) (k' := 15) (d := 82) rfl rfl ⟨_, _, _, rfl, rfl, rfl, rfl⟩ rfl rfl ?_
         refine wlo 15 16 rfl rfl rfl (wo_run rfl rfl (run_pickF rfl rfl rfl) ?_)
         refine wl_end rfl ?_
         refine nm_sub [(1, _), (2, _), (3, _), (4, _), (9, _), (10, _), (11, _), (12, _), (13, _), (83, _)] ⟨rfl, rfl, rfl, rfl, rfl, rfl, rfl, rfl, rfl, rfl, trivial⟩ ?_
         refine nm_thn ?_
         refine ws_condFN counted_n58 rfl rfl rfl ?_
         refine ws_skip rfl ?_
         refine nm_blk ?_
         refine nm_sub [(1, _), (2, _), (3, _), (4, _), (9, _), (10, _), (11, _), (12, _)] ⟨rfl, rfl, rfl, rfl, rfl, rfl, rfl, rfl, trivial⟩ ?_
         refine nm_thn ?_
         refine ws_region rfl ?_
         refine wlm 0 1 rfl rfl rfl rfl rfl rfl rfl ?_
         refine wlo 1 2 rfl rfl rfl (wo_run rfl rfl (run_add rfl rfl rfl (by first | omega | (simp only [lens]; omega))) ?_)
         refine wla 2 3 rfl rfl rfl rfl rfl rfl rfl ?_
         refine wl_end rfl ?_
         refine nm_lp ?_
         intro ax_ hax_
         refine ⟨_, ?hq22m, ⟨i + 1, ok, rfl, hax_.sub ⟨rfl, rfl, rfl, rfl, rfl, rfl, rfl, rfl, trivial⟩, S196.pick [1, 2] [_, _] (by decide) ⟨rfl, rfl, trivial⟩, ?hq22f0, ?hq22f1, ?hq22f2⟩⟩
         case hq22f0 => omega
         case hq22f1 => first | (intro h9; exact Bool.noConfusion h9) | (intro h9 j hj; by_cases e : j = i; (subst e; refine ⟨fun h1 h2 => ?_, fun h1 h2 h3 => ?_⟩; (unfold eB at h1 ⊢; unfold eD at h2 ⊢; omega); (unfold eA at h1 ⊢; unfold eB at h2 ⊢; unfold eC at h3 ⊢; first | omega | (have h8 := of_decide_eq_true h9; unfold q2; first | (rw [if_pos (by assumption)]; exact h8) | (rw [if_neg (by simp [*])]; exact h8)))); exact hok1 hb37 j (by omega))
         case hq22f2 => first | (intro h9; rw [hb37] at h9; cases h9; done) | (intro h9; exact Bool.noConfusion h9) | (intro _; exact ⟨i, by omega, fun hx => hb67 (hx.1 (by unfold eB; omega) (by unfold eD; omega))⟩) | (intro h9; refine ⟨i, by omega, fun hx => ?_⟩; have h8 := of_decide_eq_false h9; have h7 := hx.2 (by unfold eA; omega) (by unfold eB; omega) (by unfold eC; omega); unfold q2 eA eB eC at h7; first | (rw [if_pos (by assumption)] at h7; exact h8 h7) | (rw [if_neg (by assumption)] at h7; exact h8 h7) | (rw [if_neg (by clear h7 h8 hx; simp [*])] at h7; exact h8 h7))
         case hq22m => omega
      ·refine ws_exit rfl rfl ?_
       refine nm_sub [(1, _), (2, _), (3, _), (4, _), (9, _), (10, _), (11, _)] ⟨rfl, rfl, rfl, rfl, rfl, rfl, rfl, trivial⟩ ?_
       refine nm_thn ?_
       refine ws_seqN counted_n67 counted_n68 rfl rfl rfl ?_
       refine ws_region rfl ?_
       refine wlm 0 1 rfl rfl rfl rfl rfl rfl rfl ?_
       refine wl_end rfl ?_
       refine nm_sub [(1, _), (2, _), (3, _), (4, _), (9, _), (10, _), (123, _)] ⟨rfl, rfl, rfl, rfl, rfl, rfl, rfl, trivial⟩ ?_
       refine nm_thn ?_
       refine ws_condN counted_n69 counted_n70 rfl rfl rfl rfl (fun hb123 => ?_) (fun hb123 => ?_)
       ·have hok9 : ∀ k, k < d.crs.length → okX d q l2 a k := fun k hk => by first | exact hok1 hb123 k (by omega) | (rw [hb123] at hb37; cases hb37)
        have hs9 : cntT d q (l.take a ++ [(c : Int)]) = cntT d q (l2.take (a + 1)) := by rw [hl2, take_pt hl1 hp1 hal]
        have hbd9 : cntT d q (l2.take (a + 1)) ≤ 1099511627776 := cntT_bd hQF hn (by rw [List.length_take]; omega)
        refine ws_region rfl ?_
        refine wlm 0 1 rfl rfl rfl rfl rfl rfl rfl ?_
        refine wlo 1 2 rfl rfl rfl (wo_run rfl rfl (run_loadN (us := [_, _]) rfl rfl Try.underlying24 rfl sz24 (S4.boxcs (i := 0) rfl ⟨rfl, rfl, trivial⟩)) ?_)
        refine wlm 2 3 rfl rfl rfl rfl rfl rfl rfl ?_
        refine wlm 3 4 rfl rfl rfl rfl rfl rfl rfl ?_
        refine wlm 4 5 rfl rfl rfl rfl rfl rfl rfl ?_
        refine wlo 5 6 rfl rfl rfl (wo_run rfl rfl (run_add rfl rfl rfl (by first | omega | (simp only [lens]; omega))) ?_)
        refine wlo 6 7 rfl rfl rfl (wo_c1 rfl rfl rfl rfl rfl rfl rfl cf59 S4 (i := 1) rfl (ih (by omega) l2 hl9 hlv9 hok9 vra _ _ _ (hdcrs.mono (S4.less (i := 1) rfl).un_XH) (hq.mono (S4.less (i := 1) rfl).un_XH) (hdq.mono (S4.less (i := 1) rfl).un_XH) (S4.lend1 (i := 1) rfl)) ?_)
        rintro vw259 w259 _ _ - S259 ⟨hMX1, lz1, rfl, hzl1, hzp1, hzv1, rfl⟩; clear S4
        change SH _ _ _ [_, _] at S259
        rw [hMX1] at S259; clear hMX1
        refine wlo 7 8 rfl rfl rfl (wo_run rfl rfl (run_add rfl rfl rfl (by first | omega | (simp only [lens]; omega))) ?_)
        refine wla 8 9 rfl rfl rfl rfl rfl rfl rfl ?_
        refine wl_end rfl ?_
        refine nm_blk ?_
        refine nm_sub [(1, _), (2, _), (3, _), (4, _), (9, _), (10, _)] ⟨rfl, rfl, rfl, rfl, rfl, rfl, trivial⟩ ?_
        refine nm_thn ?_
        have hy1 : lz1.length = l.length := by rw [hzl1]; exact hl9
        have hy2 : ∀ x, x < a → ga lz1 x = ga l x := fun x hx => by rw [hzp1 x (by omega)]; exact hp9 x hx
        refine ws_eq 9 (.int .i64 ((sumN (fun c => cntT d q (l.take a ++ [(c : Int)])) (c + 1) : Nat) : Int)) rfl (int_eq (by rw [sumN, hs9]; omega)) ?_
        refine ws_region rfl ?_
        refine wlm 0 1 rfl rfl rfl rfl rfl rfl rfl ?_
        refine wlo 1 2 rfl rfl rfl (wo_run rfl rfl (run_add rfl rfl rfl (by first | omega | (simp only [lens]; omega))) ?_)
        refine wla 2 3 rfl rfl rfl rfl rfl rfl rfl ?_
        refine wl_end rfl ?_
        refine nm_lp ?_
        intro ax_ hax_
        refine ⟨_, ?hq23m, ⟨c + 1, lz1, _, rfl, hax_.sub ⟨rfl, rfl, rfl, rfl, rfl, rfl, trivial⟩, S259.pick [0, 1] [_, _] (by decide) ⟨rfl, rfl, trivial⟩, ?hq23f0, ?hq23f1, ?hq23f2, ?hq23f3, ?hq23f4⟩⟩
        case hq23f0 => exact hva
        case hq23f1 => omega
        case hq23f2 => assumption
        case hq23f3 => assumption
        case hq23f4 => assumption
        case hq23m => omega
       ·have hs9 : cntT d q (l.take a ++ [(c : Int)]) = 0 := by
         obtain ⟨k, hk, hno⟩ := hok2 hb123
         refine cntT_no (a := a) (k := k) (by rw [List.length_append, List.length_take, List.length_singleton]; omega) (by omega) hk (fun h => hno (okX_eq (fun x hx => ?_) h))
         rw [← take_pt hl1 hp1 hal, ← hl2, ga_take _ _ _ (by omega)]
        refine ws_skip rfl ?_
        refine nm_blk ?_
        refine nm_sub [(1, _), (2, _), (3, _), (4, _), (9, _), (10, _)] ⟨rfl, rfl, rfl, rfl, rfl, rfl, trivial⟩ ?_
        refine nm_thn ?_
        refine ws_eq 9 (.int .i64 ((sumN (fun c => cntT d q (l.take a ++ [(c : Int)])) (c + 1) : Nat) : Int)) rfl (int_eq (by rw [sumN, hs9]; omega)) ?_
        refine ws_region rfl ?_
        refine wlm 0 1 rfl rfl rfl rfl rfl rfl rfl ?_
        refine wlo 1 2 rfl rfl rfl (wo_run rfl rfl (run_add rfl rfl rfl (by first | omega | (simp only [lens]; omega))) ?_)
        refine wla 2 3 rfl rfl rfl rfl rfl rfl rfl ?_
        refine wl_end rfl ?_
        refine nm_lp ?_
        intro ax_ hax_
        refine ⟨_, ?hq24m, ⟨c + 1, l2, _, rfl, hax_.sub ⟨rfl, rfl, rfl, rfl, rfl, rfl, trivial⟩, S4.pick [0, 1] [_, _] (by decide) ⟨rfl, rfl, trivial⟩, ?hq24f0, ?hq24f1, ?hq24f2, ?hq24f3, ?hq24f4⟩⟩
        case hq24f0 => exact hva
        case hq24f1 => omega
        case hq24f2 => assumption
        case hq24f3 => assumption
        case hq24f4 => assumption
        case hq24m => omega
     ·replace hg35 := of_decide_eq_false hg35
      refine wl_no (k := 6) (k' := 7) (d := 36) rfl rfl ⟨_, _, _, rfl, rfl, rfl, rfl⟩ rfl rfl ?_
      refine wlo 7 8 rfl rfl rfl (wo_run rfl rfl (run_pickF rfl rfl rfl) ?_)
      refine wl_end rfl ?_
      refine nm_sub [(1, _), (2, _), (3, _), (4, _), (9, _), (10, _), (11, _), (12, _), (37, _)] ⟨rfl, rfl, rfl, rfl, rfl, rfl, rfl, rfl, rfl, trivial⟩ ?_
      refine nm_thn ?_
      refine ws_condFN counted_n43 rfl rfl rfl ?_
      refine ws_exit rfl rfl ?_
      refine nm_sub [(1, _), (2, _), (3, _), (4, _), (9, _), (10, _), (11, _)] ⟨rfl, rfl, rfl, rfl, rfl, rfl, rfl, trivial⟩ ?_
      refine nm_thn ?_
      refine ws_seqN counted_n67 counted_n68 rfl rfl rfl ?_
      refine ws_region rfl ?_
      refine wlm 0 1 rfl rfl rfl rfl rfl rfl rfl ?_
      refine wl_end rfl ?_
      refine nm_sub [(1, _), (2, _), (3, _), (4, _), (9, _), (10, _), (123, _)] ⟨rfl, rfl, rfl, rfl, rfl, rfl, rfl, trivial⟩ ?_
      refine nm_thn ?_
      refine ws_condN counted_n69 counted_n70 rfl rfl rfl rfl (fun hb123 => ?_) (fun hb123 => ?_)
      ·have hok9 : ∀ k, k < d.crs.length → okX d q l2 a k := fun k hk => by first | exact hok1 hb123 k (by omega) | (rw [hb123] at hb37; cases hb37)
       have hs9 : cntT d q (l.take a ++ [(c : Int)]) = cntT d q (l2.take (a + 1)) := by rw [hl2, take_pt hl1 hp1 hal]
       have hbd9 : cntT d q (l2.take (a + 1)) ≤ 1099511627776 := cntT_bd hQF hn (by rw [List.length_take]; omega)
       refine ws_region rfl ?_
       refine wlm 0 1 rfl rfl rfl rfl rfl rfl rfl ?_
       refine wlo 1 2 rfl rfl rfl (wo_run rfl rfl (run_loadN (us := [_, _]) rfl rfl Try.underlying24 rfl sz24 (S4.boxcs (i := 0) rfl ⟨rfl, rfl, trivial⟩)) ?_)
       refine wlm 2 3 rfl rfl rfl rfl rfl rfl rfl ?_
       refine wlm 3 4 rfl rfl rfl rfl rfl rfl rfl ?_
       refine wlm 4 5 rfl rfl rfl rfl rfl rfl rfl ?_
       refine wlo 5 6 rfl rfl rfl (wo_run rfl rfl (run_add rfl rfl rfl (by first | omega | (simp only [lens]; omega))) ?_)
       refine wlo 6 7 rfl rfl rfl (wo_c1 rfl rfl rfl rfl rfl rfl rfl cf59 S4 (i := 1) rfl (ih (by omega) l2 hl9 hlv9 hok9 vra _ _ _ (hdcrs.mono (S4.less (i := 1) rfl).un_XH) (hq.mono (S4.less (i := 1) rfl).un_XH) (hdq.mono (S4.less (i := 1) rfl).un_XH) (S4.lend1 (i := 1) rfl)) ?_)
       rintro vw260 w260 _ _ - S260 ⟨hMX2, lz2, rfl, hzl2, hzp2, hzv2, rfl⟩; clear S4
       change SH _ _ _ [_, _] at S260
       rw [hMX2] at S260; clear hMX2
       refine wlo 7 8 rfl rfl rfl (wo_run rfl rfl (run_add rfl rfl rfl (by first | omega | (simp only [lens]; omega))) ?_)
       refine wla 8 9 rfl rfl rfl rfl rfl rfl rfl ?_
       refine wl_end rfl ?_
       refine nm_blk ?_
       refine nm_sub [(1, _), (2, _), (3, _), (4, _), (9, _), (10, _)] ⟨rfl, rfl, rfl, rfl, rfl, rfl, trivial⟩ ?_
       refine nm_thn ?_
       have hy1 : lz2.length = l.length := by rw [hzl2]; exact hl9
       have hy2 : ∀ x, x < a → ga lz2 x = ga l x := fun x hx => by rw [hzp2 x (by omega)]; exact hp9 x hx
       refine ws_eq 9 (.int .i64 ((sumN (fun c => cntT d q (l.take a ++ [(c : Int)])) (c + 1) : Nat) : Int)) rfl (int_eq (by rw [sumN, hs9]; omega)) ?_
       refine ws_region rfl ?_
       refine wlm 0 1 rfl rfl rfl rfl rfl rfl rfl ?_
       refine wlo 1 2 rfl rfl rfl (wo_run rfl rfl (run_add rfl rfl rfl (by first | omega | (simp only [lens]; omega))) ?_)
       refine wla 2 3 rfl rfl rfl rfl rfl rfl rfl ?_
       refine wl_end rfl ?_
       refine nm_lp ?_
       intro ax_ hax_
       refine ⟨_, ?hq25m, ⟨c + 1, lz2, _, rfl, hax_.sub ⟨rfl, rfl, rfl, rfl, rfl, rfl, trivial⟩, S260.pick [0, 1] [_, _] (by decide) ⟨rfl, rfl, trivial⟩, ?hq25f0, ?hq25f1, ?hq25f2, ?hq25f3, ?hq25f4⟩⟩
       case hq25f0 => exact hva
       case hq25f1 => omega
       case hq25f2 => assumption
       case hq25f3 => assumption
       case hq25f4 => assumption
       case hq25m => omega
      ·have hs9 : cntT d q (l.take a ++ [(c : Int)]) = 0 := by
        obtain ⟨k, hk, hno⟩ := hok2 hb123
        refine cntT_no (a := a) (k := k) (by rw [List.length_append, List.length_take, List.length_singleton]; omega) (by omega) hk (fun h => hno (okX_eq (fun x hx => ?_) h))
        rw [← take_pt hl1 hp1 hal, ← hl2, ga_take _ _ _ (by omega)]
       refine ws_skip rfl ?_
       refine nm_blk ?_
       refine nm_sub [(1, _), (2, _), (3, _), (4, _), (9, _), (10, _)] ⟨rfl, rfl, rfl, rfl, rfl, rfl, trivial⟩ ?_
       refine nm_thn ?_
       refine ws_eq 9 (.int .i64 ((sumN (fun c => cntT d q (l.take a ++ [(c : Int)])) (c + 1) : Nat) : Int)) rfl (int_eq (by rw [sumN, hs9]; omega)) ?_
       refine ws_region rfl ?_
       refine wlm 0 1 rfl rfl rfl rfl rfl rfl rfl ?_
       refine wlo 1 2 rfl rfl rfl (wo_run rfl rfl (run_add rfl rfl rfl (by first | omega | (simp only [lens]; omega))) ?_)
       refine wla 2 3 rfl rfl rfl rfl rfl rfl rfl ?_
       refine wl_end rfl ?_
       refine nm_lp ?_
       intro ax_ hax_
       refine ⟨_, ?hq26m, ⟨c + 1, l2, _, rfl, hax_.sub ⟨rfl, rfl, rfl, rfl, rfl, rfl, trivial⟩, S4.pick [0, 1] [_, _] (by decide) ⟨rfl, rfl, trivial⟩, ?hq26f0, ?hq26f1, ?hq26f2, ?hq26f3, ?hq26f4⟩⟩
       case hq26f0 => exact hva
       case hq26f1 => omega
       case hq26f2 => assumption
       case hq26f3 => assumption
       case hq26f4 => assumption
       case hq26m => omega
   ·replace hb23 := of_decide_eq_false hb23
    refine ws_exit rfl rfl ?_
    refine nm_sub [(9, _)] ⟨rfl, trivial⟩ ?_
    refine nm_thn ?_
    refine ws_seqN counted_n71 counted_n72 rfl rfl rfl ?_
    refine ws_region rfl ?_
    refine wlm 0 1 rfl rfl rfl rfl rfl rfl rfl ?_
    refine wla 1 2 rfl rfl rfl rfl rfl rfl rfl ?_
    refine wl_end rfl ?_
    refine nm_sub [(8, _)] ⟨rfl, trivial⟩ ?_
    refine nm_thn ?_
    refine ws_ret hC [_] rfl rfl ⟨rfl, trivial⟩ ?_
    exact ⟨_, rfl, _, _, Hp.le_refl _, S2.pick [1] [_] (by decide) ⟨rfl, trivial⟩, ⟨rfl, l1, congrArg (Value.int .i64) (by rw [cntT_split (p := l.take a) (by rw [List.length_take]; omega), show q.length = c by omega]), hl1, hp1, hv1, by rw [hva]⟩⟩
end Go.Proofs.Ytefkjfcncpmneaa
