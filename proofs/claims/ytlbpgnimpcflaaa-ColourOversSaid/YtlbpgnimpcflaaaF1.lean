/- Walks printed by eng.py. -/
import Derived.Test.YtlbpgnimpcflaaaEb
import Derived.Test.YtlbpgnimpcflaaaE14
import Derived.Test.YtlbpgnimpcflaaaCst
import Derived.Test.YtlbpgnimpcflaaaCeq
set_option linter.unusedSimpArgs false
set_option linter.unusedVariables false
namespace Go.Proofs.Ytlbpgnimpcflaaa
open Go.ChangeShapes Go.WideShapes Go.ChangeAt Go.RowKit
/-- A dart: an arc with a direction. -/
structure Da where
  a : Int
  b : Bool
instance : Inhabited Da := ⟨⟨0, false⟩⟩
instance : DecidableEq Da := fun x y => decidable_of_iff (x.a = y.a ∧ x.b = y.b) ⟨fun h => by cases x; cases y; simp at h; simp [h], fun h => by rw [h]; exact ⟨rfl, rfl⟩⟩
def daF (x : Da) : List Value := [.int .i64 x.a, .bool x.b]
def cdDa : Cd Da := ⟨daF, 2, 16, 102, ⟨0, false⟩, fun _ => rfl, by
  intro x u hu
  simp [daF] at hu
  rcases hu with rfl | rfl <;> rfl⟩
def okD (d : Dg) (x : Da) : Prop := 1 ≤ x.a ∧ x.a ≤ 2 * (d.crs.length : Int)
/-- The dart behind a dart along the face to the left. -/
def leftD (d : Dg) (x : Da) : Da := ⟨arcAt d (endOf d x.a x.b).1 (((endOf d x.a x.b).2 + 3) % 4), entryB d (endOf d x.a x.b).1 (((endOf d x.a x.b).2 + 3) % 4)⟩
theorem arcAt_bd {d : Dg} (h : arcsB d = true) {i k : Nat} (hi : i < d.crs.length) (hk : k < 4) : 1 ≤ arcAt d i k ∧ arcAt d i k ≤ 2 * (d.crs.length : Int) := by
  have := arcs_rng h (j := 4 * i + k) (by omega)
  unfold arcJ at this
  rwa [show (4 * i + k) / 4 = i by omega, show (4 * i + k) % 4 = k by omega] at this
theorem endD {d : Dg} (h : arcsB d = true) {a : Int} (ha : 1 ≤ a ∧ a ≤ 2 * (d.crs.length : Int)) (b : Bool) : (endOf d a b).1 < d.crs.length ∧ (endOf d a b).2 < 4 ∧ ga (tabL d b (4 * d.crs.length)) a.toNat = endOf d a b ∧ a.toNat < 2 * d.crs.length + 1 ∧ a = (a.toNat : Int) := by
  have e : a = (a.toNat : Int) := by omega
  obtain ⟨h1, h2, h3, _⟩ := endOf_lt h (a := a.toNat) (by omega) (by omega) b
  rw [← e] at h1 h2 h3
  refine ⟨h1, h2, ?_, by omega, e⟩
  rw [tabL_get (by omega), ← e]
  exact h3
theorem leftD_ok {d : Dg} (h : arcsB d = true) {x : Da} (hx : okD d x) : okD d (leftD d x) := by
  obtain ⟨h1, h2, _⟩ := endD h hx x.b
  exact arcAt_bd h h1 (Nat.mod_lt _ (by decide))

theorem sl22 : SlOf Try.prog 22 (cdV 24) := ⟨.slice none 0 0, Try.underlying22, by kernel_rfl, rfl, by decide, by decide⟩
theorem sl23 : SlOf Try.prog 23 cdBool := ⟨.bool false, Try.underlying23, by kernel_rfl, rfl, by decide, by decide⟩
theorem sl25 : SlOf Try.prog 25 cdCr := ⟨.agg [.int .i64 0, .int .i64 0, .int .i64 0, .int .i64 0, .bool false].toArray, Try.underlying25, by kernel_rfl, rfl, by decide, by decide⟩
theorem sl37 : SlOf Try.prog 37 (cdV 44) := ⟨.slice none 0 0, Try.underlying37, by kernel_rfl, rfl, by decide, by decide⟩
theorem sl44 : SlOf Try.prog 44 cdInt := ⟨.int .i64 0, Try.underlying44, by kernel_rfl, rfl, by decide, by decide⟩
theorem sl54 : SlOf Try.prog 54 (cdV 100) := ⟨.slice none 0 0, Try.underlying54, by kernel_rfl, rfl, by decide, by decide⟩
theorem sl79 : SlOf Try.prog 79 cdPl := ⟨.agg [.int .i64 0, .int .i64 0].toArray, Try.underlying79, by kernel_rfl, rfl, by decide, by decide⟩
theorem sl100 : SlOf Try.prog 100 cdDa := ⟨.agg [.int .i64 0, .bool false].toArray, Try.underlying100, by kernel_rfl, rfl, by decide, by decide⟩
noncomputable def Arc_n0 : Code := Try.f85.body.getD .skip
noncomputable def Arc_n1 : Code := cL Arc_n0
noncomputable def Arc_n2 : Code := cR Arc_n0
noncomputable def Arc_n3 : Code := cL Arc_n2
noncomputable def Arc_n4 : Code := cR Arc_n2
set_option maxRecDepth 10000 in
theorem Arc_q {w : World} {M : Hp} {X : Fr} (x : Cr) (k : Nat) (hk : k < 4) (S : SH w M X []) : Cq Try.prog 85 [.agg [.int .i64 x.a, .int .i64 x.b, .int .i64 x.c, .int .i64 x.d, .bool x.plus].toArray, .int .i64 (k : Int)] w M X (fun u => u = .int .i64 (crArc x k)) := by
  unfold Cq
  refine calls_in (b := Arc_n0) Try.func85 rfl Try.ntmps85 rfl (fun C hC => ?_)
  refine ws_sub [(0, _), (1, _)] ⟨rfl, rfl, trivial⟩ ?_
  refine ws_seqN Arc_n1 Arc_n2 rfl rfl rfl ?_
  refine ws_region rfl ?_
  refine wl_op (k := 0) (k' := 1) rfl rfl rfl (wo_box (l := [_, _, _, _, _]) rfl rfl rfl rfl rfl S ?_)
  intro gb1 w1 S1; clear S
  refine wl_op (k := 1) (k' := 2) rfl rfl rfl (wo_run rfl rfl (run_assign rfl rfl) ?_)
  refine wl_end rfl ?_
  refine nm_sub [(1, _), (2, _)] ⟨rfl, rfl, trivial⟩ ?_
  refine nm_thn ?_
  refine ws_seqN Arc_n3 Arc_n4 rfl rfl rfl ?_
  refine ws_region rfl ?_
  refine wl_op (k := 0) (k' := 1) rfl rfl rfl (wo_run rfl rfl (run_fieldAddr rfl rfl Try.underlying73 rfl (ce3) (nf3)) ?_)
  refine wl_op (k := 1) (k' := 2) rfl rfl rfl (wo_run rfl rfl (run_load1 rfl rfl Try.underlying3 rfl (S1.boxc (i := 0) rfl rfl)) ?_)
  refine wl_op (k := 2) (k' := 3) rfl rfl rfl (wo_run rfl rfl (run_fieldAddr rfl rfl Try.underlying73 rfl (ce3) (nf3)) ?_)
  refine wl_op (k := 3) (k' := 4) rfl rfl rfl (wo_run rfl rfl (run_load1 rfl rfl Try.underlying3 rfl (S1.boxc (i := 0) rfl rfl)) ?_)
  refine wl_op (k := 4) (k' := 5) rfl rfl rfl (wo_run rfl rfl (run_fieldAddr rfl rfl Try.underlying73 rfl (ce3) (nf3)) ?_)
  refine wl_op (k := 5) (k' := 6) rfl rfl rfl (wo_run rfl rfl (run_load1 rfl rfl Try.underlying3 rfl (S1.boxc (i := 0) rfl rfl)) ?_)
  refine wl_op (k := 6) (k' := 7) rfl rfl rfl (wo_run rfl rfl (run_fieldAddr rfl rfl Try.underlying73 rfl (ce3) (nf3)) ?_)
  refine wl_op (k := 7) (k' := 8) rfl rfl rfl (wo_run rfl rfl (run_load1 rfl rfl Try.underlying3 rfl (S1.boxc (i := 0) rfl rfl)) ?_)
  refine wl_op (k := 8) (k' := 9) rfl rfl rfl (wo_run rfl rfl (run_buildA (l := [_, _, _, _]) (pl := [(0, 1), (1, 1), (2, 1), (3, 1)]) rfl rfl Try.underlying132 zr132 sz3 rfl rfl rfl) ?_)
  refine wl_op (k := 9) (k' := 10) rfl rfl rfl (wo_run rfl rfl (run_move rfl rfl) ?_)
  refine wl_op (k := 10) (k' := 11) rfl rfl rfl (wo_run rfl rfl (run_index1 (e := k) rfl rfl rfl Try.underlying132 Try.underlying3 rfl sz3 (by first | rfl | omega) (by first | omega | (simp only [List.length_set, List.length_append, List.length_replicate, List.length_singleton, List.length_cons, List.length_nil]; omega)) (nth_iv [x.a, x.b, x.c, x.d] k (by simp; first | omega | (simp only [List.length_set, List.length_append, List.length_replicate, List.length_singleton, List.length_cons, List.length_nil]; omega)))) ?_)
  refine wl_op (k := 11) (k' := 12) rfl rfl rfl (wo_run rfl rfl (run_assign rfl rfl) ?_)
  refine wl_end rfl ?_
  refine nm_sub [(4, _)] ⟨rfl, trivial⟩ ?_
  refine nm_thn ?_
  refine ws_ret hC [_] rfl rfl ⟨rfl, trivial⟩ ?_
  exact ⟨_, rfl, (S1.pick [] [] (by decide) trivial), (by have e0 : k = 0 ∨ k = 1 ∨ k = 2 ∨ k = 3 := (by omega); rcases e0 with rfl | rfl | rfl | rfl <;> first | rfl | (exfalso; omega))⟩

noncomputable def OverIn_n0 : Code := Try.f63.body.getD .skip
noncomputable def OverIn_n1 : Code := cL OverIn_n0
noncomputable def OverIn_n2 : Code := cR OverIn_n0
noncomputable def OverIn_n3 : Code := cL OverIn_n2
noncomputable def OverIn_n4 : Code := cR OverIn_n2
noncomputable def OverIn_n5 : Code := cL OverIn_n3
noncomputable def OverIn_n6 : Code := cR OverIn_n3
noncomputable def OverIn_n7 : Code := cL OverIn_n6
noncomputable def OverIn_n8 : Code := cR OverIn_n6
noncomputable def OverIn_n9 : Code := cL OverIn_n7
noncomputable def OverIn_n10 : Code := cR OverIn_n7
noncomputable def OverIn_n11 : Code := cL OverIn_n4
noncomputable def OverIn_n12 : Code := cR OverIn_n4
set_option maxRecDepth 10000 in
theorem OverIn_q {w : World} {M : Hp} {X : Fr} (x : Cr) (S : SH w M X []) : Cq Try.prog 63 [.agg [.int .i64 x.a, .int .i64 x.b, .int .i64 x.c, .int .i64 x.d, .bool x.plus].toArray] w M X (fun u => u = .int .i64 (overIn x : Int)) := by
  unfold Cq
  refine calls_in (b := OverIn_n0) Try.func63 rfl Try.ntmps63 rfl (fun C hC => ?_)
  refine ws_sub [(0, _)] ⟨rfl, trivial⟩ ?_
  refine ws_seqN OverIn_n1 OverIn_n2 rfl rfl rfl ?_
  refine ws_region rfl ?_
  refine wl_op (k := 0) (k' := 1) rfl rfl rfl (wo_box (l := [_, _, _, _, _]) rfl rfl rfl rfl rfl S ?_)
  intro gb1 w1 S1; clear S
  refine wl_op (k := 1) (k' := 2) rfl rfl rfl (wo_run rfl rfl (run_assign rfl rfl) ?_)
  refine wl_end rfl ?_
  refine nm_sub [(1, _)] ⟨rfl, trivial⟩ ?_
  refine nm_thn ?_
  refine ws_seqN OverIn_n3 OverIn_n4 rfl rfl rfl ?_
  refine ws_seqN OverIn_n5 OverIn_n6 rfl rfl rfl ?_
  refine ws_region rfl ?_
  refine wl_op (k := 0) (k' := 1) rfl rfl rfl (wo_run rfl rfl (run_fieldAddr rfl rfl Try.underlying73 rfl (ce4) (nf4)) ?_)
  refine wl_op (k := 1) (k' := 2) rfl rfl rfl (wo_run rfl rfl (run_load1 rfl rfl Try.underlying4 rfl (S1.boxc (i := 0) rfl rfl)) ?_)
  refine wl_end rfl ?_
  refine nm_sub [(4, _)] ⟨rfl, trivial⟩ ?_
  refine nm_thn ?_
  refine ws_condN OverIn_n7 OverIn_n8 rfl rfl rfl rfl (fun hb4 => ?_) (fun hb4 => ?_)
  · refine ws_seqN OverIn_n9 OverIn_n10 rfl rfl rfl ?_
    refine ws_region rfl ?_
    refine wl_op (k := 0) (k' := 1) rfl rfl rfl (wo_run rfl rfl (run_assign rfl rfl) ?_)
    refine wl_end rfl ?_
    refine nm_sub [(2, _)] ⟨rfl, trivial⟩ ?_
    refine nm_thn ?_
    refine ws_ret hC [_] rfl rfl ⟨rfl, trivial⟩ ?_
    exact ⟨_, rfl, (S1.pick [] [] (by decide) trivial), (by show Value.int _ _ = _; unfold overIn; rw [hb4]; rfl)⟩
  · refine ws_skip rfl ?_
    refine nm_sub [] trivial ?_
    refine nm_thn ?_
    refine ws_seqN OverIn_n11 OverIn_n12 rfl rfl rfl ?_
    refine ws_region rfl ?_
    refine wl_op (k := 0) (k' := 1) rfl rfl rfl (wo_run rfl rfl (run_assign rfl rfl) ?_)
    refine wl_end rfl ?_
    refine nm_thn ?_
    refine ws_ret hC [_] rfl rfl ⟨rfl, trivial⟩ ?_
    exact ⟨_, rfl, (S1.pick [] [] (by decide) trivial), (by show Value.int _ _ = _; unfold overIn; rw [hb4]; rfl)⟩

noncomputable def Comes_n0 : Code := Try.f95.body.getD .skip
noncomputable def Comes_n1 : Code := cL Comes_n0
noncomputable def Comes_n2 : Code := cR Comes_n0
noncomputable def Comes_n3 : Code := cL Comes_n2
noncomputable def Comes_n4 : Code := cR Comes_n2
set_option maxRecDepth 10000 in
theorem Comes_q {w : World} {M : Hp} {X : Fr} (x : Cr) (k : Nat) (hk : k < 4) (S : SH w M X []) : Cq Try.prog 95 [.agg [.int .i64 x.a, .int .i64 x.b, .int .i64 x.c, .int .i64 x.d, .bool x.plus].toArray, .int .i64 (k : Int)] w M X (fun u => u = .bool (crIn x k)) := by
  unfold Cq
  refine calls_in (b := Comes_n0) Try.func95 rfl Try.ntmps95 rfl (fun C hC => ?_)
  refine ws_sub [(0, _), (1, _)] ⟨rfl, rfl, trivial⟩ ?_
  refine ws_seqN Comes_n1 Comes_n2 rfl rfl rfl ?_
  refine ws_region rfl ?_
  refine wl_op (k := 0) (k' := 1) rfl rfl rfl (wo_box (l := [_, _, _, _, _]) rfl rfl rfl rfl rfl S ?_)
  intro gb1 w1 S1; clear S
  refine wl_op (k := 1) (k' := 2) rfl rfl rfl (wo_run rfl rfl (run_assign rfl rfl) ?_)
  refine wl_end rfl ?_
  refine nm_sub [(1, _), (2, _)] ⟨rfl, rfl, trivial⟩ ?_
  refine nm_thn ?_
  refine ws_seqN Comes_n3 Comes_n4 rfl rfl rfl ?_
  refine ws_region rfl ?_
  refine wl_op (k := 0) (k' := 1) rfl rfl rfl (wo_run rfl rfl (run_move rfl rfl) ?_)
  refine wl_op (k := 1) (k' := 2) rfl rfl rfl (wo_run rfl rfl (run_eql rfl rfl rfl) ?_)
  refine wl_op (k := 2) (k' := 3) rfl rfl rfl (wo_run rfl rfl (run_move rfl rfl) ?_)
  refine wl_split (t := 7) rfl (fun hg7 => ?_) (fun hg7 => ?_)
  · have hg7 := of_decide_eq_true hg7
    refine wl_no (k := 3) (k' := 4) (d := 8) rfl rfl ⟨_, _, _, rfl, rfl, rfl, rfl⟩ rfl rfl ?_
    refine wl_no (k := 4) (k' := 5) (d := 9) rfl rfl ⟨_, _, _, rfl, rfl, rfl, rfl⟩ rfl rfl ?_
    refine wl_no (k := 5) (k' := 6) (d := 10) rfl rfl ⟨_, _, _, rfl, rfl, rfl, rfl⟩ rfl rfl ?_
    refine wl_no (k := 6) (k' := 7) (d := 11) rfl rfl ⟨_, _, _, rfl, rfl, rfl, rfl⟩ rfl rfl ?_
    refine wl_op (k := 7) (k' := 8) rfl rfl rfl (wo_run rfl rfl (run_pickT rfl rfl rfl) ?_)
    refine wl_op (k := 8) (k' := 9) rfl rfl rfl (wo_run rfl rfl (run_assign rfl rfl) ?_)
    refine wl_end rfl ?_
    refine nm_sub [(4, _)] ⟨rfl, trivial⟩ ?_
    refine nm_thn ?_
    refine ws_ret hC [_] rfl rfl ⟨rfl, trivial⟩ ?_
    exact ⟨_, rfl, (S1.pick [] [] (by decide) trivial), (by show Value.bool _ = _; refine congrArg Value.bool ?_; unfold crIn; first | (symm; rw [decide_eq_true_iff]; left; omega) | (unfold overIn; refine decide_eq_decide.2 ?_; cases hp9 : x.plus <;> simp <;> omega))⟩
  · have hg7 := of_decide_eq_false hg7
    refine wl_opG (k := 3) (k' := 4) rfl rfl ⟨_, _, _, rfl, rfl, rfl, rfl⟩ rfl (wo_run rfl rfl (run_move rfl rfl) ?_)
    refine wl_opG (k := 4) (k' := 5) rfl rfl ⟨_, _, _, rfl, rfl, rfl, rfl⟩ rfl (wo_run rfl rfl (run_loadN (us := [_, _, _, _, _]) rfl rfl Try.underlying73 rfl sz73 (S1.boxcs (i := 0) rfl ⟨rfl, rfl, rfl, rfl, rfl, trivial⟩)) ?_)
    refine wl_opG (k := 5) (k' := 6) rfl rfl ⟨_, _, _, rfl, rfl, rfl, rfl⟩ rfl (wo_cq rfl rfl rfl rfl rfl rfl rfl cf63 S1 (OverIn_q x  S1.lend) ?_)
    rintro _ w2 S2 rfl; clear S1
    refine wl_opG (k := 6) (k' := 7) rfl rfl ⟨_, _, _, rfl, rfl, rfl, rfl⟩ rfl (wo_run rfl rfl (run_eql rfl rfl rfl) ?_)
    refine wl_op (k := 7) (k' := 8) rfl rfl rfl (wo_run rfl rfl (run_pickF rfl rfl rfl) ?_)
    refine wl_op (k := 8) (k' := 9) rfl rfl rfl (wo_run rfl rfl (run_assign rfl rfl) ?_)
    refine wl_end rfl ?_
    refine nm_sub [(4, _)] ⟨rfl, trivial⟩ ?_
    refine nm_thn ?_
    refine ws_ret hC [_] rfl rfl ⟨rfl, trivial⟩ ?_
    exact ⟨_, rfl, (S2.pick [] [] (by decide) trivial), (by show Value.bool _ = _; refine congrArg Value.bool ?_; unfold crIn; first | (symm; rw [decide_eq_true_iff]; left; omega) | (unfold overIn; refine decide_eq_decide.2 ?_; cases hp9 : x.plus <;> simp <;> omega))⟩

noncomputable def At_n0 : Code := Try.f96.body.getD .skip
noncomputable def At_n1 : Code := cL At_n0
noncomputable def At_n2 : Code := cR At_n0
noncomputable def At_n3 : Code := cL At_n2
noncomputable def At_n4 : Code := cR At_n2
set_option maxRecDepth 10000 in
theorem At_q {w : World} {M : Hp} {X : Fr} (d : Dg) {gsh : Nat} {cA iA oA : Option Addr} {cc ic oc : Nat} (c k : Nat) (hsb : BxM (M.un X.h) gsh 81 [.slice cA d.crs.length cc, .int .i64 d.loops, .slice iA (tabL d false (4 * d.crs.length)).length ic, .slice oA (tabL d true (4 * d.crs.length)).length oc]) (hsc : RdA cdCr (M.un X.h) cA cc d.crs) (hsi : RdA cdPl (M.un X.h) iA ic (tabL d false (4 * d.crs.length))) (hso : RdA cdPl (M.un X.h) oA oc (tabL d true (4 * d.crs.length))) (hc : c < d.crs.length) (hk : k < 4) (S : SH w M X []) : Cq Try.prog 96 [.pointer (some ⟨gsh, 0, none⟩), .agg [.int .i64 (c : Int), .int .i64 (k : Int)].toArray] w M X (fun u => u = .int .i64 (arcAt d c k)) := by
  unfold Cq
  refine calls_in (b := At_n0) Try.func96 rfl Try.ntmps96 rfl (fun C hC => ?_)
  refine ws_sub [(0, _), (1, _)] ⟨rfl, rfl, trivial⟩ ?_
  refine ws_seqN At_n1 At_n2 rfl rfl rfl ?_
  refine ws_region rfl ?_
  refine wl_op (k := 0) (k' := 1) rfl rfl rfl (wo_box (l := [_, _]) rfl rfl rfl rfl rfl S ?_)
  intro gb1 w1 S1; clear S
  refine wl_op (k := 1) (k' := 2) rfl rfl rfl (wo_run rfl rfl (run_assign rfl rfl) ?_)
  refine wl_end rfl ?_
  refine nm_sub [(0, _), (3, _)] ⟨rfl, rfl, trivial⟩ ?_
  refine nm_thn ?_
  refine ws_seqN At_n3 At_n4 rfl rfl rfl ?_
  refine ws_draw rfl (by kernel_rfl) S1 13 rfl ?_
  clear S1
  refine wa_takeP (i := 0) (d := 5) 12 rfl (by kernel_rfl) (by kernel_rfl) (by kernel_rfl) rfl rfl rfl (fun w2 => run_move rfl rfl) ?_
  refine wa_takeP (i := 1) (d := 6) 11 rfl (by kernel_rfl) (by kernel_rfl) (by kernel_rfl) rfl rfl rfl (fun w3 => run_nilCheck rfl rfl) ?_
  refine wa_takeP (i := 2) (d := 7) 10 rfl (by kernel_rfl) (by kernel_rfl) (by kernel_rfl) rfl rfl rfl (fun w4 => run_fieldAddr rfl rfl Try.underlying81 rfl (ce27) (nf27)) ?_
  refine wa_takeP (i := 3) (d := 8) 9 rfl (by kernel_rfl) (by kernel_rfl) (by kernel_rfl) rfl rfl rfl (fun w5 => run_fieldAddr rfl rfl Try.underlying27 rfl (ce25) (nf25)) ?_
  refine wa_take (i := 4) (d := 9) 8 rfl (by kernel_rfl) (by kernel_rfl) (by kernel_rfl) rfl rfl rfl (fun M5 N5 w6 hle5 S6 => .inl (run_load1 rfl rfl Try.underlying25 rfl ((hsb.mono (Hp.un_mono hle5 S6.mx)).cell S6.um rfl))) ?_
  refine wa_takeP (i := 5) (d := 10) 7 rfl (by kernel_rfl) (by kernel_rfl) (by kernel_rfl) rfl rfl rfl (fun w7 => run_fieldAddr rfl rfl Try.underlying84 rfl (ce3) (nf3)) ?_
  refine wa_take (i := 6) (d := 11) 6 rfl (by kernel_rfl) (by kernel_rfl) (by kernel_rfl) rfl rfl rfl (fun M7 N7 w8 hle7 S8 => .inl (run_load1 rfl rfl Try.underlying3 rfl (S8.suf.boxc (i := 0) rfl rfl))) ?_
  refine wa_take (i := 7) (d := 12) 5 rfl (by kernel_rfl) (by kernel_rfl) (by kernel_rfl) rfl rfl rfl (fun M8 N8 w9 hle8 S9 => .inl (run_indexM (C := cdCr) c rfl rfl rfl sl25 (by first | rfl | omega) (hsc.mono (Hp.un_mono hle8 S9.mx)) (by first | omega | (simp only [List.length_set, List.length_append, List.length_replicate, List.length_singleton, List.length_cons, List.length_nil]; omega)))) ?_
  refine wa_take (i := 8) (d := 13) 4 rfl (by kernel_rfl) (by kernel_rfl) (by kernel_rfl) rfl rfl rfl (fun M9 N9 w10 hle9 S10 => .inl (run_loadN (us := [_, _, _, _, _]) rfl rfl Try.underlying73 rfl sz73 ((hsc.mono (Hp.un_mono hle9 S10.mx)).cellsAt S10.um (e := c) (by first | omega | (simp only [List.length_set, List.length_append, List.length_replicate, List.length_singleton, List.length_cons, List.length_nil]; omega)) (j := 0) ⟨rfl, rfl, rfl, rfl, rfl, trivial⟩))) ?_
  refine wa_takeP (i := 9) (d := 14) 3 rfl (by kernel_rfl) (by kernel_rfl) (by kernel_rfl) rfl rfl rfl (fun w11 => run_fieldAddr rfl rfl Try.underlying84 rfl (ce3) (nf3)) ?_
  refine wa_take (i := 10) (d := 15) 2 rfl (by kernel_rfl) (by kernel_rfl) (by kernel_rfl) rfl rfl rfl (fun M11 N11 w12 hle11 S12 => .inl (run_load1 rfl rfl Try.underlying3 rfl (S12.suf.boxc (i := 0) rfl rfl))) ?_
  refine wa_take (i := 11) (d := 16) 1 rfl (by kernel_rfl) (by kernel_rfl) (by kernel_rfl) rfl rfl rfl (fun M12 N12 w13 hle12 S13 => yield_cq rfl rfl rfl rfl rfl cf85 S13 (Arc_q (ga d.crs c) k (by omega) S13.lend)) ?_
  refine wa_takeP (i := 12) (d := 4) 0 rfl (by kernel_rfl) (by kernel_rfl) (by kernel_rfl) rfl rfl rfl (fun w14 => run_assign rfl rfl) ?_
  refine wa_end (by kernel_rfl) (fun w15 S15 => ?_)
  refine nm_sub [(4, _)] ⟨rfl, trivial⟩ ?_
  refine nm_thn ?_
  refine ws_ret hC [_] rfl rfl ⟨rfl, trivial⟩ ?_
  exact ⟨_, rfl, (S15.pick [] [] (by decide) trivial), rfl⟩

noncomputable def Arcs_n0 : Code := Try.f55.body.getD .skip
noncomputable def Arcs_n1 : Code := cL Arcs_n0
noncomputable def Arcs_n2 : Code := cR Arcs_n0
noncomputable def Arcs_n3 : Code := cL Arcs_n2
noncomputable def Arcs_n4 : Code := cR Arcs_n2
set_option maxRecDepth 10000 in
theorem Arcs_q {w : World} {M : Hp} {X : Fr} (d : Dg) {gsh : Nat} {cA iA oA : Option Addr} {cc ic oc : Nat} (hsb : BxM (M.un X.h) gsh 81 [.slice cA d.crs.length cc, .int .i64 d.loops, .slice iA (tabL d false (4 * d.crs.length)).length ic, .slice oA (tabL d true (4 * d.crs.length)).length oc]) (hsc : RdA cdCr (M.un X.h) cA cc d.crs) (hsi : RdA cdPl (M.un X.h) iA ic (tabL d false (4 * d.crs.length))) (hso : RdA cdPl (M.un X.h) oA oc (tabL d true (4 * d.crs.length))) (hn : d.crs.length ≤ 16) (S : SH w M X []) : Cq Try.prog 55 [.pointer (some ⟨gsh, 0, none⟩)] w M X (fun u => u = .int .i64 (2 * (d.crs.length : Int))) := by
  unfold Cq
  refine calls_in (b := Arcs_n0) Try.func55 rfl Try.ntmps55 rfl (fun C hC => ?_)
  refine ws_sub [(0, _)] ⟨rfl, trivial⟩ ?_
  refine ws_seqN Arcs_n1 Arcs_n2 rfl rfl rfl ?_
  refine ws_region rfl ?_
  refine wl_op (k := 0) (k' := 1) rfl rfl rfl (wo_run rfl rfl (run_assign rfl rfl) ?_)
  refine wl_end rfl ?_
  refine nm_sub [(0, _)] ⟨rfl, trivial⟩ ?_
  refine nm_thn ?_
  refine ws_seqN Arcs_n3 Arcs_n4 rfl rfl rfl ?_
  refine ws_region rfl ?_
  refine wl_op (k := 0) (k' := 1) rfl rfl rfl (wo_run rfl rfl (run_move rfl rfl) ?_)
  refine wl_op (k := 1) (k' := 2) rfl rfl rfl (wo_run rfl rfl (run_nilCheck rfl rfl) ?_)
  refine wl_op (k := 2) (k' := 3) rfl rfl rfl (wo_run rfl rfl (run_fieldAddr rfl rfl Try.underlying81 rfl (ce27) (nf27)) ?_)
  refine wl_op (k := 3) (k' := 4) rfl rfl rfl (wo_run rfl rfl (run_fieldAddr rfl rfl Try.underlying27 rfl (ce25) (nf25)) ?_)
  refine wl_op (k := 4) (k' := 5) rfl rfl rfl (wo_run rfl rfl (run_load1 rfl rfl Try.underlying25 rfl (hsb.cell S.um rfl)) ?_)
  refine wl_op (k := 5) (k' := 6) rfl rfl rfl (wo_run rfl rfl (run_len rfl rfl rfl rfl rfl rfl Try.underlying25) ?_)
  refine wl_op (k := 6) (k' := 7) rfl rfl rfl (wo_run rfl rfl (run_mul rfl rfl rfl (by first | omega | (simp only [List.length_set, List.length_append, List.length_replicate, List.length_singleton, List.length_cons, List.length_nil]; omega))) ?_)
  refine wl_op (k := 7) (k' := 8) rfl rfl rfl (wo_run rfl rfl (run_assign rfl rfl) ?_)
  refine wl_end rfl ?_
  refine nm_sub [(2, _)] ⟨rfl, trivial⟩ ?_
  refine nm_thn ?_
  refine ws_ret hC [_] rfl rfl ⟨rfl, trivial⟩ ?_
  exact ⟨_, rfl, (S.pick [] [] (by decide) trivial), rfl⟩

end Go.Proofs.Ytlbpgnimpcflaaa
