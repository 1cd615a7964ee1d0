/- Walks printed by eng.py. -/
import Derived.Test.YtkcighnochjlgaaM7
import Derived.Test.YtkcighnochjlgaaDs
set_option linter.unusedSimpArgs false
set_option linter.unusedVariables false
namespace Go.Proofs.Ytkcighnochjlgaa
open Go.ChangeShapes Go.WideShapes Go.ChangeAt Go.RowKit
noncomputable def Determinant_n0 : Code := Try.f76.body.getD .skip
noncomputable def Determinant_n1 : Code := cL Determinant_n0
noncomputable def Determinant_n2 : Code := cR Determinant_n0
noncomputable def Determinant_n3 : Code := cL Determinant_n2
noncomputable def Determinant_n4 : Code := cR Determinant_n2
noncomputable def Determinant_n5 : Code := cL Determinant_n4
noncomputable def Determinant_n6 : Code := cR Determinant_n4
noncomputable def Determinant_n7 : Code := cL Determinant_n6
noncomputable def Determinant_n8 : Code := cR Determinant_n6
noncomputable def Determinant_n9 : Code := cL Determinant_n8
noncomputable def Determinant_n10 : Code := cR Determinant_n8
noncomputable def Determinant_n11 : Code := cL Determinant_n9
noncomputable def Determinant_n12 : Code := cR Determinant_n9
noncomputable def Determinant_n13 : Code := cL Determinant_n12
noncomputable def Determinant_n14 : Code := cL Determinant_n13
noncomputable def Determinant_n15 : Code := cL Determinant_n14
noncomputable def Determinant_n16 : Code := cR Determinant_n14
noncomputable def Determinant_n17 : Code := cL Determinant_n15
noncomputable def Determinant_n18 : Code := cR Determinant_n15
noncomputable def Determinant_n19 : Code := cL Determinant_n18
noncomputable def Determinant_n20 : Code := cR Determinant_n18
noncomputable def Determinant_n21 : Code := cL Determinant_n16
noncomputable def Determinant_n22 : Code := cR Determinant_n16
noncomputable def Determinant_n23 : Code := cL Determinant_n21
noncomputable def Determinant_n24 : Code := cL Determinant_n23
noncomputable def Determinant_n25 : Code := cR Determinant_n23
noncomputable def Determinant_n26 : Code := cL Determinant_n25
noncomputable def Determinant_n27 : Code := cR Determinant_n25
noncomputable def Determinant_n28 : Code := cL Determinant_n27
noncomputable def Determinant_n29 : Code := cR Determinant_n27
noncomputable def Determinant_n30 : Code := cL Determinant_n28
noncomputable def Determinant_n31 : Code := cR Determinant_n28
noncomputable def Determinant_n32 : Code := cL Determinant_n31
noncomputable def Determinant_n33 : Code := cL Determinant_n32
noncomputable def Determinant_n34 : Code := cL Determinant_n33
noncomputable def Determinant_n35 : Code := cR Determinant_n33
noncomputable def Determinant_n36 : Code := cL Determinant_n35
noncomputable def Determinant_n37 : Code := cR Determinant_n35
noncomputable def Determinant_n38 : Code := cL Determinant_n36
noncomputable def Determinant_n39 : Code := cR Determinant_n36
noncomputable def Determinant_n40 : Code := cL Determinant_n37
noncomputable def Determinant_n41 : Code := cR Determinant_n37
noncomputable def Determinant_n42 : Code := cL Determinant_n40
noncomputable def Determinant_n43 : Code := cL Determinant_n42
noncomputable def Determinant_n44 : Code := cR Determinant_n42
noncomputable def Determinant_n45 : Code := cL Determinant_n44
noncomputable def Determinant_n46 : Code := cR Determinant_n44
noncomputable def Determinant_n47 : Code := cL Determinant_n45
noncomputable def Determinant_n48 : Code := cR Determinant_n45
noncomputable def Determinant_n49 : Code := cL Determinant_n48
noncomputable def Determinant_n50 : Code := cR Determinant_n48
noncomputable def Determinant_n51 : Code := cL Determinant_n46
noncomputable def Determinant_n52 : Code := cR Determinant_n46
noncomputable def Determinant_n53 : Code := cL Determinant_n10
noncomputable def Determinant_n54 : Code := cR Determinant_n10
set_option maxHeartbeats 1000000 in
set_option maxRecDepth 10000 in
theorem Determinant_t {w : World} {M : Hp} {X : Fr} {B : Nat} (gss : List (List (Option Nat))) (pss : List (List (Option Pol))) {mA : Option Addr} {mc : Nat} {mv : List SlV} (hm : RdA (cdV 94) M mA mc mv) (hdm : Rd2 (cdMap 87) M mv gss) (hwm : WksA (fun _ => B) M gss pss) (n : Nat) (mm : Nat → Nat → Pol) (hn : n ≤ 10) (hB : 13 * B ≤ 1099511627776) (hml : mv.length = n) (hgl0 : ∀ i, i < n → (ga gss i).length = n) (hpss : ∀ i, i < n → ∀ k, k < n → ga (ga pss i) k = some (mm i k)) (S : SH w M X []) : Ct Try.prog 76 [.slice mA mv.length mc] w M X (WkR (12 * B) (detP mm n)) := by
  unfold Ct
  have rmhm : mv.length * 24 ≤ 140737488355328 := hm.room
  have h2n : 2 ^ n ≤ 4096 := pow_le12 (by omega)
  have h1n := pow_pos2 n
  have hgm := hdm.1
  refine calls_in (b := Determinant_n0) Try.func76 rfl Try.ntmps76 rfl (fun C hC => ?_)
  refine ws_sub [(0, _)] ⟨rfl, trivial⟩ ?_
  refine ws_seqN Determinant_n1 Determinant_n2 rfl rfl rfl ?_
  refine ws_region rfl ?_
  refine wl_op (k := 0) (k' := 1) rfl rfl rfl (wo_run rfl rfl (run_assign rfl rfl) ?_)
  refine wl_end rfl ?_
  refine nm_sub [(0, _)] ⟨rfl, trivial⟩ ?_
  refine nm_thn ?_
  refine ws_seqN Determinant_n3 Determinant_n4 rfl rfl rfl ?_
  refine ws_region rfl ?_
  refine wl_op (k := 0) (k' := 1) rfl rfl rfl (wo_run rfl rfl (run_move rfl rfl) ?_)
  refine wl_op (k := 1) (k' := 2) rfl rfl rfl (wo_run rfl rfl (run_len rfl rfl rfl rfl rfl rfl Try.underlying93) ?_)
  refine wl_op (k := 2) (k' := 3) rfl rfl rfl (wo_run rfl rfl (run_assign rfl rfl) ?_)
  refine wl_end rfl ?_
  refine nm_sub [(0, _), (3, _)] ⟨rfl, rfl, trivial⟩ ?_
  refine nm_thn ?_
  refine ws_seqN Determinant_n5 Determinant_n6 rfl rfl rfl ?_
  refine ws_eq 3 (.int .i64 (n : Int)) rfl (int_eq (by omega)) ?_
  refine ws_region rfl ?_
  refine wl_op (k := 0) (k' := 1) rfl rfl rfl (wo_run rfl rfl (run_move rfl rfl) ?_)
  refine wl_op (k := 1) (k' := 2) rfl rfl rfl (wo_run rfl rfl (run_shl1N (n := n) rfl rfl rfl (by first | omega | (simp only [List.length_set, List.length_append, List.length_replicate, List.length_singleton, List.length_cons, List.length_nil]; omega))) ?_)
  refine wl_op (k := 2) (k' := 3) rfl rfl rfl (wo_make (C := (cdMap 87)) (2 ^ n) rfl rfl rfl rfl rfl sl94 (by first | rfl | omega) (by show _ * 8 ≤ _; first | omega | (simp only [List.length_set, List.length_append, List.length_replicate, List.length_singleton, List.length_cons, List.length_nil]; omega)) S ?_)
  intro vr1 w1 S1; clear S
  have hd1 : Wks (fun i => pcN i 12 * B) M (List.replicate (2 ^ n) ((cdMap 87)).z) (List.replicate (2 ^ n) none) := Wks.rep _ _ _
  refine wl_op (k := 3) (k' := 4) rfl rfl rfl (wo_run rfl rfl (run_assign rfl rfl) ?_)
  refine wl_end rfl ?_
  refine nm_sub [(0, _), (4, _)] ⟨rfl, rfl, trivial⟩ ?_
  refine nm_thn ?_
  refine ws_seqN Determinant_n7 Determinant_n8 rfl rfl rfl ?_
  refine ws_region rfl ?_
  refine wl_op (k := 0) (k' := 1) rfl rfl rfl (wo_run rfl rfl (run_move rfl rfl) ?_)
  refine wl_op (k := 1) (k' := 2) rfl rfl rfl (wo_makeMap Int Int (Value.int .i64) (Value.int .i64) rfl rfl rfl S1 ?_)
  intro gm1 w2 S2; clear S1
  refine wl_op (k := 2) (k' := 3) rfl rfl rfl (wo_mapUpdate (kc := Value.int .i64) (vc := Value.int .i64) (es := ([])) (k := 0) (e := 1) (i := 0) (H' := [_, _]) (.inr rfl) rfl S2 rfl rfl rfl rfl Try.underlying87 mk3 rfl ?_)
  intro w3 S3; clear S2
  refine wl_op (k := 3) (k' := 4) rfl rfl rfl (wo_run rfl rfl (run_move rfl rfl) ?_)
  refine wl_op (k := 4) (k' := 5) rfl rfl rfl (wo_run rfl rfl (run_indexR (C := (cdMap 87)) (i := 1) 0 rfl rfl rfl sl94 S3 rfl (by first | rfl | omega) (by first | omega | (simp only [List.length_set, List.length_append, List.length_replicate, List.length_singleton, List.length_cons, List.length_nil]; omega))) ?_)
  obtain ⟨M1, hle1, S5, hm1⟩ := S3.pubmap (i := 0) (H' := [_, _]) rfl rfl; clear S3
  replace hm := hm.mono hle1
  replace hdm := hdm.mono hle1
  replace hwm := hwm.mono hle1
  replace hd1 := hd1.mono hle1
  have hw1 : Wk M1 gm1 (0) (mk (mp 0 1 ([]))) := ⟨_, hm1, (mp_ents (Ents.nil_ 0) (by omega) (wr_id (by omega))), rfl⟩
  have hw2 : Wk M1 gm1 0 (dS mm n 0) := by rw [show (dS mm n 0) = (mk (mp 0 1 ([]))) from dS_zero mm n]; exact hw1
  refine wl_op (k := 5) (k' := 6) rfl rfl rfl (wo_storeR (C := (cdMap 87)) (i := 1) (e := 0) (j := 0) (us := [_]) (H' := [_, _]) (some gm1) rfl rfl S5 rfl (by first | omega | (simp only [List.length_set, List.length_append, List.length_replicate, List.length_singleton, List.length_cons, List.length_nil]; omega)) rfl rfl rfl sz87 rfl rfl rfl rfl ?_)
  intro w5 S6; clear S5
  have hd2 := hd1.set_ (i := 0) (hw2.up (by exact Nat.zero_le _)) (by first | omega | (simp only [List.length_set, List.length_append, List.length_replicate, List.length_singleton, List.length_cons, List.length_nil]; omega))
  refine wl_end rfl ?_
  refine nm_sub [(0, _), (4, _)] ⟨rfl, rfl, trivial⟩ ?_
  refine nm_thn ?_
  refine ws_seqN Determinant_n9 Determinant_n10 rfl rfl rfl ?_
  refine ws_seqN Determinant_n11 Determinant_n12 rfl rfl rfl ?_
  refine ws_region rfl ?_
  refine wl_op (k := 0) (k' := 1) rfl rfl rfl (wo_run rfl rfl (run_assign rfl rfl) ?_)
  refine wl_end rfl ?_
  refine nm_thn ?_
  refine ws_blockN Determinant_n13 0 rfl rfl rfl ?_
  refine ws_loopE (fun mx_ ax_ wx_ => ∃ (t : Nat) (gs : List (Option Nat)) (ps : List (Option Pol)) (vrs : Value) (M2 : Hp), M1.le M2 ∧ mx_ = 2 ^ n - t ∧ Env 79 [(0, .slice mA mv.length mc), (4, vrs), (5, .int .i64 (t : Int))] ax_ ∧ SH wx_ M2 X [Rs.row (cdMap 87) vrs gs] ∧ (1 ≤ t ∧ t ≤ 2 ^ n) ∧ gs.length = 2 ^ n ∧ (∀ j, j < t → ga ps j = some (dS mm n j)) ∧ Wks (fun i => pcN i 12 * B) M2 gs ps) rfl ?_ ?_
  · intro ax_ hax_
    refine ⟨_, ⟨1, _, ((List.replicate (2 ^ n) none).set 0 (some (dS mm n 0))), _, _, Hp.le_refl _, rfl, hax_.sub ⟨rfl, rfl, rfl, trivial⟩, S6.pick [1] [_] (by decide) ⟨rfl, trivial⟩, ?hq1f0, ?hq1f1, ?hq1f2, ?hq1f3⟩⟩
    case hq1f0 => omega
    case hq1f1 => simp
    case hq1f2 => (intro j hj; obtain rfl : j = 0 := (by omega); rw [ga_set _ _ _ _ (by simp; omega), if_pos rfl])
    case hq1f3 => exact hd2
  · rintro m2 a1 w6 ⟨t, gs, ps, vrs, M2, hle2, rfl, he1, S7, ht, hgl, hps, hws⟩
    clear S6
    refine ws_in he1 (c := Determinant_n14) rfl ?_
    clear he1 a1
    replace hm := hm.mono hle2
    replace hdm := hdm.mono hle2
    replace hwm := hwm.mono hle2
    replace hd1 := hd1.mono hle2
    replace hm1 := hm1.mono hle2
    replace hw1 := hw1.mono hle2
    replace hw2 := hw2.mono hle2
    replace hd2 := hd2.mono hle2
    have hpm := pc_mul t B
    have hwl := hws.1
    refine ws_seqN Determinant_n15 Determinant_n16 rfl rfl rfl ?_
    refine ws_seqN Determinant_n17 Determinant_n18 rfl rfl rfl ?_
    refine ws_region rfl ?_
    refine wl_op (k := 0) (k' := 1) rfl rfl rfl (wo_run rfl rfl (run_move rfl rfl) ?_)
    refine wl_op (k := 1) (k' := 2) rfl rfl rfl (wo_run rfl rfl (run_move rfl rfl) ?_)
    refine wl_op (k := 2) (k' := 3) rfl rfl rfl (wo_run rfl rfl (run_lenR (C := (cdMap 87)) (i := 0) rfl rfl rfl rfl rfl rfl sl94 S7 rfl) ?_)
    refine wl_op (k := 3) (k' := 4) rfl rfl rfl (wo_run rfl rfl (run_lss rfl rfl rfl) ?_)
    refine wl_end rfl ?_
    refine nm_sub [(0, _), (4, _), (5, _), (23, _)] ⟨rfl, rfl, rfl, rfl, trivial⟩ ?_
    refine nm_thn ?_
    refine ws_condN Determinant_n19 Determinant_n20 rfl rfl rfl rfl (fun hb23 => ?_) (fun hb23 => ?_)
    · have hb23 := of_decide_eq_true hb23
      refine ws_skip rfl ?_
      refine nm_sub [(0, _), (4, _), (5, _)] ⟨rfl, rfl, rfl, trivial⟩ ?_
      refine nm_thn ?_
      refine ws_seqN Determinant_n21 Determinant_n22 rfl rfl rfl ?_
      refine ws_blockN Determinant_n23 1 rfl rfl rfl ?_
      refine ws_seqN Determinant_n24 Determinant_n25 rfl rfl rfl ?_
      obtain ⟨r, hr⟩ : ∃ r, pcN t 12 = r + 1 := ⟨pcN t 12 - 1, by have := pc_pos (s := t) (by omega) (by omega); omega⟩
      obtain ⟨hpe, hpl⟩ := pc_eq (s := t) (n := n) (by omega) (by omega)
      have hgr := hgl0 r (by omega)
      refine ws_region rfl ?_
      refine wl_op (k := 0) (k' := 1) rfl rfl rfl (wo_run rfl rfl (run_move rfl rfl) ?_)
      refine wl_op (k := 1) (k' := 2) rfl rfl rfl (wo_run rfl rfl (run_move rfl rfl) ?_)
      refine wl_op (k := 2) (k' := 3) rfl rfl rfl (wo_run rfl rfl (run_convN (s := t) rfl rfl ⟨_, Try.underlying3⟩ Try.underlying155 (by omega)) ?_)
      refine wl_op (k := 3) (k' := 4) rfl rfl rfl (wo_cq rfl rfl rfl rfl rfl rfl rfl cf112 S7 (OC_q t ((by omega)) S7.lend) ?_)
      rintro _ w7 S8 rfl; clear S7
      refine wl_op (k := 4) (k' := 5) rfl rfl rfl (wo_run rfl rfl (run_sub rfl rfl rfl (by first | omega | (simp only [List.length_set, List.length_append, List.length_replicate, List.length_singleton, List.length_cons, List.length_nil]; omega))) ?_)
      refine wl_eq 30 (.int .i64 (r : Int)) rfl (int_eq (by omega)) ?_
      refine wl_op (k := 5) (k' := 6) rfl rfl rfl (wo_run rfl rfl (run_indexM (C := (cdV 94)) r rfl rfl rfl sl93 (by first | rfl | omega) hm (by first | omega | (simp only [List.length_set, List.length_append, List.length_replicate, List.length_singleton, List.length_cons, List.length_nil]; omega))) ?_)
      obtain ⟨hn1, hr1⟩ := hdm.2 r (by first | omega | (simp only [List.length_set, List.length_append, List.length_replicate, List.length_singleton, List.length_cons, List.length_nil]; omega))
      have rmhr1 : (ga gss r).length * 8 ≤ 140737488355328 := hr1.room
      have hW1 := hwm.2 r (by have := hwm.1; have := hdm.1; first | omega | (simp_all; omega))
      refine wl_op (k := 6) (k' := 7) rfl rfl rfl (wo_run rfl rfl (run_load1 rfl rfl Try.underlying94 rfl (hm.cell S8.m (i := r) (by first | omega | (simp only [List.length_set, List.length_append, List.length_replicate, List.length_singleton, List.length_cons, List.length_nil]; omega)) 0 rfl (congrArg (fun n => some (Value.slice _ n _)) hn1))) ?_)
      refine wl_op (k := 7) (k' := 8) rfl rfl rfl (wo_run rfl rfl (run_assign rfl rfl) ?_)
      refine wl_end rfl ?_
      refine nm_sub [(0, _), (4, _), (5, _), (6, _)] ⟨rfl, rfl, rfl, rfl, trivial⟩ ?_
      refine nm_thn ?_
      refine ws_seqN Determinant_n26 Determinant_n27 rfl rfl rfl ?_
      refine ws_region rfl ?_
      refine wl_op (k := 0) (k' := 1) rfl rfl rfl (wo_makeMap Int Int (Value.int .i64) (Value.int .i64) rfl rfl rfl S8 ?_)
      intro gm3 w8 S9; clear S8
      refine wl_op (k := 1) (k' := 2) rfl rfl rfl (wo_run rfl rfl (run_assign rfl rfl) ?_)
      refine wl_end rfl ?_
      refine nm_sub [(0, _), (4, _), (5, _), (6, _), (7, _)] ⟨rfl, rfl, rfl, rfl, rfl, trivial⟩ ?_
      refine nm_thn ?_
      refine ws_seqN Determinant_n28 Determinant_n29 rfl rfl rfl ?_
      refine ws_seqN Determinant_n30 Determinant_n31 rfl rfl rfl ?_
      obtain ⟨M3, hle3, S10, hm2⟩ := S9.pubmap (i := 0) (H' := [_, _]) rfl rfl; clear S9
      replace hm := hm.mono hle3
      replace hdm := hdm.mono hle3
      replace hwm := hwm.mono hle3
      replace hd1 := hd1.mono hle3
      replace hm1 := hm1.mono hle3
      replace hw1 := hw1.mono hle3
      replace hw2 := hw2.mono hle3
      replace hd2 := hd2.mono hle3
      replace hws := hws.mono hle3
      replace hr1 := hr1.mono hle3
      replace hW1 := hW1.mono hle3
      refine ws_region rfl ?_
      refine wl_op (k := 0) (k' := 1) rfl rfl rfl (wo_run rfl rfl (run_move rfl rfl) ?_)
      refine wl_op (k := 1) (k' := 2) rfl rfl rfl (wo_run rfl rfl (run_len rfl rfl rfl rfl rfl rfl Try.underlying94) ?_)
      refine wl_op (k := 2) (k' := 3) rfl rfl rfl (wo_run rfl rfl (run_move rfl rfl) ?_)
      refine wl_end rfl ?_
      refine nm_sub [(0, _), (4, _), (5, _), (7, _), (34, _), (35, _), (36, _)] ⟨rfl, rfl, rfl, rfl, rfl, rfl, rfl, trivial⟩ ?_
      refine nm_thn ?_
      refine ws_blockN Determinant_n32 2 rfl rfl rfl ?_
      refine ws_loopE (fun mx_ ax_ wx_ => ∃ (k : Nat) (go : Nat) (p : Pol) (M4 : Hp), M3.le M4 ∧ mx_ = n - k ∧ Env 79 [(0, .slice mA mv.length mc), (4, vrs), (5, .int .i64 (t : Int)), (7, .map (some go)), (34, .slice ((ga mv r).A) (ga gss r).length ((ga mv r).c)), (35, .int .i64 ((ga gss r).length : Int)), (36, .int .i64 (k : Int))] ax_ ∧ SH wx_ M4 X [Rs.row (cdMap 87) vrs gs] ∧ k ≤ n ∧ Wk M4 go (pcN t 12 * B) p ∧ p = sm k (dTerm mm n t r)) rfl ?_ ?_
      · intro ax_ hax_
        refine ⟨_, ⟨0, gm3, Pol.o, _, Hp.le_refl _, rfl, hax_.sub ⟨rfl, rfl, rfl, rfl, rfl, rfl, rfl, trivial⟩, S10.pick [1] [_] (by decide) ⟨rfl, trivial⟩, ?hq2f0, ?hq2f1, ?hq2f2⟩⟩
        case hq2f0 => omega
        case hq2f1 => exact ⟨_, hm2, Ents.nil_ _, rfl⟩
        case hq2f2 => rfl
      · rintro m4 a2 w9 ⟨k, go, p, M4, hle4, rfl, he2, S11, hk, hwo, hp⟩
        clear S10
        refine ws_in he2 (c := Determinant_n33) rfl ?_
        clear he2 a2
        replace hm := hm.mono hle4
        replace hdm := hdm.mono hle4
        replace hwm := hwm.mono hle4
        replace hd1 := hd1.mono hle4
        replace hm1 := hm1.mono hle4
        replace hw1 := hw1.mono hle4
        replace hw2 := hw2.mono hle4
        replace hd2 := hd2.mono hle4
        replace hws := hws.mono hle4
        replace hr1 := hr1.mono hle4
        replace hW1 := hW1.mono hle4
        replace hm2 := hm2.mono hle4
        refine ws_seqN Determinant_n34 Determinant_n35 rfl rfl rfl ?_
        refine ws_region rfl ?_
        refine wl_op (k := 0) (k' := 1) rfl rfl rfl (wo_run rfl rfl (run_lss rfl rfl rfl) ?_)
        refine wl_end rfl ?_
        refine nm_thn ?_
        refine ws_seqN Determinant_n36 Determinant_n37 rfl rfl rfl ?_
        refine ws_condN Determinant_n38 Determinant_n39 rfl rfl rfl rfl (fun hb37 => ?_) (fun hb37 => ?_)
        · have hb37 := of_decide_eq_true hb37
          refine ws_skip rfl ?_
          refine nm_sub [(0, _), (4, _), (5, _), (7, _), (34, _), (35, _), (36, _)] ⟨rfl, rfl, rfl, rfl, rfl, rfl, rfl, trivial⟩ ?_
          refine nm_thn ?_
          refine ws_seqN Determinant_n40 Determinant_n41 rfl rfl rfl ?_
          refine ws_blockN Determinant_n42 3 rfl rfl rfl ?_
          refine ws_seqN Determinant_n43 Determinant_n44 rfl rfl rfl ?_
          refine ws_region rfl ?_
          refine wl_op (k := 0) (k' := 1) rfl rfl rfl (wo_run rfl rfl (run_move rfl rfl) ?_)
          refine wl_op (k := 1) (k' := 2) rfl rfl rfl (wo_run rfl rfl (run_indexM (C := (cdMap 87)) k rfl rfl rfl sl94 (by first | rfl | omega) hr1 (by first | omega | (simp only [List.length_set, List.length_append, List.length_replicate, List.length_singleton, List.length_cons, List.length_nil]; omega))) ?_)
          obtain ⟨gw1, eg1, hw3⟩ := hW1.get (i := k) (p := mm r k) (by first | omega | (simp only [List.length_set, List.length_append, List.length_replicate, List.length_singleton, List.length_cons, List.length_nil]; omega)) (hpss r (by omega) k (by omega))
          replace hw3 : Wk _ gw1 B (mm r k) := hw3
          refine wl_op (k := 2) (k' := 3) rfl rfl rfl (wo_run rfl rfl (run_load1 rfl rfl Try.underlying87 rfl (hr1.cell S11.m (i := k) (by first | omega | (simp only [List.length_set, List.length_append, List.length_replicate, List.length_singleton, List.length_cons, List.length_nil]; omega)) 0 rfl (congrArg (fun n => some (Value.map n)) eg1))) ?_)
          refine wl_op (k := 3) (k' := 4) rfl rfl rfl (wo_run rfl rfl (run_assign rfl rfl) ?_)
          refine wl_op (k := 4) (k' := 5) rfl rfl rfl (wo_run rfl rfl (run_assign rfl rfl) ?_)
          refine wl_end rfl ?_
          refine nm_sub [(0, _), (4, _), (5, _), (7, _), (34, _), (35, _), (36, _), (8, _), (9, _)] ⟨rfl, rfl, rfl, rfl, rfl, rfl, rfl, rfl, rfl, trivial⟩ ?_
          refine nm_thn ?_
          refine ws_seqN Determinant_n45 Determinant_n46 rfl rfl rfl ?_
          refine ws_seqN Determinant_n47 Determinant_n48 rfl rfl rfl ?_
          refine ws_region rfl ?_
          refine wl_op (k := 0) (k' := 1) rfl rfl rfl (wo_run rfl rfl (run_move rfl rfl) ?_)
          refine wl_op (k := 1) (k' := 2) rfl rfl rfl (wo_run rfl rfl (run_move rfl rfl) ?_)
          refine wl_op (k := 2) (k' := 3) rfl rfl rfl (wo_run rfl rfl (run_shrN (s := t) (n := k) rfl rfl rfl (by omega)) ?_)
          refine wl_op (k := 3) (k' := 4) rfl rfl rfl (wo_run rfl rfl (run_and1N (s := (t / 2 ^ k)) rfl rfl rfl) ?_)
          refine wl_op (k := 4) (k' := 5) rfl rfl rfl (wo_run rfl rfl (run_eql rfl rfl rfl) ?_)
          refine wl_end rfl ?_
          refine nm_sub [(0, _), (4, _), (5, _), (7, _), (34, _), (35, _), (36, _), (8, _), (9, _), (45, _)] ⟨rfl, rfl, rfl, rfl, rfl, rfl, rfl, rfl, rfl, rfl, trivial⟩ ?_
          refine nm_thn ?_
          refine ws_condN Determinant_n49 Determinant_n50 rfl rfl rfl rfl (fun hb45 => ?_) (fun hb45 => ?_)
          · have hb45 := of_decide_eq_true hb45
            refine ws_exit rfl rfl ?_
            refine nm_sub [(0, _), (4, _), (5, _), (7, _), (34, _), (35, _), (36, _)] ⟨rfl, rfl, rfl, rfl, rfl, rfl, rfl, trivial⟩ ?_
            refine nm_thn ?_
            refine ws_region rfl ?_
            refine wl_op (k := 0) (k' := 1) rfl rfl rfl (wo_run rfl rfl (run_add rfl rfl rfl (by first | omega | (simp only [List.length_set, List.length_append, List.length_replicate, List.length_singleton, List.length_cons, List.length_nil]; omega))) ?_)
            refine wl_op (k := 1) (k' := 2) rfl rfl rfl (wo_run rfl rfl (run_move rfl rfl) ?_)
            refine wl_end rfl ?_
            refine nm_lp ?_
            intro ax_ hax_
            refine ⟨_, ?hq3m, ⟨k + 1, go, p, _, (hle4), rfl, hax_.sub ⟨rfl, rfl, rfl, rfl, rfl, rfl, rfl, trivial⟩, S11.pick [0] [_] (by decide) ⟨rfl, trivial⟩, ?hq3f0, ?hq3f1, ?hq3f2⟩⟩
            case hq3f0 => omega
            case hq3f1 => exact hwo
            case hq3f2 => (rw [sm, ← hp]; unfold dTerm; rw [if_neg (by rw [bit_iff]; omega), Pol.add_zero])
            case hq3m => omega
          · have hb45 := of_decide_eq_false hb45
            have hbit : tb t k = true := (bit_iff t k).2 (by omega)
            have hclr := pc_clr (s := t) (k := k) (by omega) (by omega) hbit
            have hcl := clr_lt (s := t) (n := k) (by omega) hbit
            have hbd := bd_step (B := B) hclr
            have hab := pc_above (s := t) (n := n) (k := k) (by omega) (by omega) (by omega)
            have hdiv := Nat.div_le_self t (2 ^ (k + 1))
            refine ws_skip rfl ?_
            refine nm_sub [(0, _), (4, _), (5, _), (7, _), (34, _), (35, _), (36, _), (8, _), (9, _)] ⟨rfl, rfl, rfl, rfl, rfl, rfl, rfl, rfl, rfl, trivial⟩ ?_
            refine nm_thn ?_
            refine ws_seqN Determinant_n51 Determinant_n52 rfl rfl rfl ?_
            refine ws_region rfl ?_
            refine wl_op (k := 0) (k' := 1) rfl rfl rfl (wo_run rfl rfl (run_move rfl rfl) ?_)
            refine wl_op (k := 1) (k' := 2) rfl rfl rfl (wo_run rfl rfl (run_move rfl rfl) ?_)
            refine wl_op (k := 2) (k' := 3) rfl rfl rfl (wo_run rfl rfl (run_add rfl rfl rfl (by first | omega | (simp only [List.length_set, List.length_append, List.length_replicate, List.length_singleton, List.length_cons, List.length_nil]; omega))) ?_)
            refine wl_op (k := 3) (k' := 4) rfl rfl rfl (wo_run rfl rfl (run_shrN (s := t) (n := (k + 1)) rfl rfl rfl (by omega)) ?_)
            refine wl_op (k := 4) (k' := 5) rfl rfl rfl (wo_run rfl rfl (run_convN (s := (t / 2 ^ (k + 1))) rfl rfl ⟨_, Try.underlying3⟩ Try.underlying155 (by omega)) ?_)
            refine wl_op (k := 5) (k' := 6) rfl rfl rfl (wo_cq rfl rfl rfl rfl rfl rfl rfl cf112 S11 (OC_q (t / 2 ^ (k + 1)) ((by omega)) S11.lend) ?_)
            rintro _ w10 S12 rfl; clear S11
            refine wl_op (k := 6) (k' := 7) rfl rfl rfl (wo_run rfl rfl (run_assign rfl rfl) ?_)
            refine wl_end rfl ?_
            refine nm_sub [(0, _), (4, _), (5, _), (7, _), (34, _), (35, _), (36, _), (8, _), (9, _), (10, _)] ⟨rfl, rfl, rfl, rfl, rfl, rfl, rfl, rfl, rfl, rfl, trivial⟩ ?_
            refine nm_thn ?_
            refine ws_region rfl ?_
            refine wl_op (k := 0) (k' := 1) rfl rfl rfl (wo_run rfl rfl (run_move rfl rfl) ?_)
            refine wl_op (k := 1) (k' := 2) rfl rfl rfl (wo_run rfl rfl (run_move rfl rfl) ?_)
            refine wl_op (k := 2) (k' := 3) rfl rfl rfl (wo_run rfl rfl (run_move rfl rfl) ?_)
            refine wl_op (k := 3) (k' := 4) rfl rfl rfl (wo_run rfl rfl (run_move rfl rfl) ?_)
            refine wl_op (k := 4) (k' := 5) rfl rfl rfl (wo_run rfl rfl (run_move rfl rfl) ?_)
            refine wl_op (k := 5) (k' := 6) rfl rfl rfl (wo_run rfl rfl (run_shl1N (n := k) rfl rfl rfl (by first | omega | (simp only [List.length_set, List.length_append, List.length_replicate, List.length_singleton, List.length_cons, List.length_nil]; omega))) ?_)
            refine wl_op (k := 6) (k' := 7) rfl rfl rfl (wo_run rfl rfl (run_clrN (s := t) (n := k) rfl rfl rfl (by omega) (by first | omega | (simp only [List.length_set, List.length_append, List.length_replicate, List.length_singleton, List.length_cons, List.length_nil]; omega))) ?_)
            refine wl_op (k := 7) (k' := 8) rfl rfl rfl (wo_run rfl rfl (run_indexR (C := (cdMap 87)) (i := 0) (clr t k) rfl rfl rfl sl94 S12 rfl (by first | rfl | omega) (by first | omega | (simp only [List.length_set, List.length_append, List.length_replicate, List.length_singleton, List.length_cons, List.length_nil]; omega))) ?_)
            obtain ⟨gw2, eg2, hw4⟩ := hws.get (i := clr t k) (p := dS mm n (clr t k)) (by first | omega | (simp only [List.length_set, List.length_append, List.length_replicate, List.length_singleton, List.length_cons, List.length_nil]; omega)) (hps (clr t k) (by omega))
            replace hw4 : Wk _ gw2 (pcN (clr t k) 12 * B) (dS mm n (clr t k)) := hw4
            refine wl_op (k := 8) (k' := 9) rfl rfl rfl (wo_run rfl rfl (run_load1 rfl rfl Try.underlying87 rfl (S12.rowc (i := 0) (e := clr t k) (j := 0) rfl (by first | omega | (simp only [List.length_set, List.length_append, List.length_replicate, List.length_singleton, List.length_cons, List.length_nil]; omega)) rfl (congrArg (fun n => some (Value.map n)) eg2))) ?_)
            refine wl_op (k := 9) (k' := 10) rfl rfl rfl (wo_ct rfl rfl rfl rfl rfl rfl rfl cf61 S12 (TimesW_t hw3 hw4 (by omega) S12.lend) ?_)
            intro vw11 w11 M5 hle5 S13 hRw11; clear S12
            replace hm := hm.mono hle5
            replace hdm := hdm.mono hle5
            replace hwm := hwm.mono hle5
            replace hd1 := hd1.mono hle5
            replace hm1 := hm1.mono hle5
            replace hw1 := hw1.mono hle5
            replace hw2 := hw2.mono hle5
            replace hd2 := hd2.mono hle5
            replace hws := hws.mono hle5
            replace hr1 := hr1.mono hle5
            replace hW1 := hW1.mono hle5
            replace hm2 := hm2.mono hle5
            replace hwo := hwo.mono hle5
            replace hw3 := hw3.mono hle5
            replace hw4 := hw4.mono hle5
            obtain ⟨gw3, rfl, hw5⟩ := hRw11
            refine wl_op (k := 10) (k' := 11) rfl rfl rfl (wo_run rfl rfl (run_move rfl rfl) ?_)
            refine wl_op (k := 11) (k' := 12) rfl rfl rfl (wo_run rfl rfl (run_rem rfl rfl rfl (by first | omega | (simp only [List.length_set, List.length_append, List.length_replicate, List.length_singleton, List.length_cons, List.length_nil]; omega))) ?_)
            refine wl_op (k := 12) (k' := 13) rfl rfl rfl (wo_run rfl rfl (run_mul rfl rfl rfl (by first | omega | (simp only [List.length_set, List.length_append, List.length_replicate, List.length_singleton, List.length_cons, List.length_nil]; omega))) ?_)
            refine wl_op (k := 13) (k' := 14) rfl rfl rfl (wo_run rfl rfl (run_sub rfl rfl rfl (by first | omega | (simp only [List.length_set, List.length_append, List.length_replicate, List.length_singleton, List.length_cons, List.length_nil]; omega))) ?_)
            refine wl_op (k := 14) (k' := 15) rfl rfl rfl (wo_ct rfl rfl rfl rfl rfl rfl rfl cf104 S13 (ShiftW_t hw5 0 (1 - (2 * ((pcN (t / 2 ^ (k + 1)) 12 : Int) % 2))) 0 (by omega) (by omega) S13.lend) ?_)
            intro vw12 w12 M6 hle6 S14 hRw12; clear S13
            replace hm := hm.mono hle6
            replace hdm := hdm.mono hle6
            replace hwm := hwm.mono hle6
            replace hd1 := hd1.mono hle6
            replace hm1 := hm1.mono hle6
            replace hw1 := hw1.mono hle6
            replace hw2 := hw2.mono hle6
            replace hd2 := hd2.mono hle6
            replace hws := hws.mono hle6
            replace hr1 := hr1.mono hle6
            replace hW1 := hW1.mono hle6
            replace hm2 := hm2.mono hle6
            replace hwo := hwo.mono hle6
            replace hw3 := hw3.mono hle6
            replace hw4 := hw4.mono hle6
            replace hw5 := hw5.mono hle6
            obtain ⟨gw4, rfl, hw6⟩ := hRw12
            refine wl_op (k := 15) (k' := 16) rfl rfl rfl (wo_ct rfl rfl rfl rfl rfl rfl rfl cf60 S14 (PlusW_t hwo hw6 (max (pcN t 12 * B) ((B + (pcN (clr t k) 12 * B)) + 0)) (by omega) (by omega) (by omega) S14.lend) ?_)
            intro vw13 w13 M7 hle7 S15 hRw13; clear S14
            replace hm := hm.mono hle7
            replace hdm := hdm.mono hle7
            replace hwm := hwm.mono hle7
            replace hd1 := hd1.mono hle7
            replace hm1 := hm1.mono hle7
            replace hw1 := hw1.mono hle7
            replace hw2 := hw2.mono hle7
            replace hd2 := hd2.mono hle7
            replace hws := hws.mono hle7
            replace hr1 := hr1.mono hle7
            replace hW1 := hW1.mono hle7
            replace hm2 := hm2.mono hle7
            replace hwo := hwo.mono hle7
            replace hw3 := hw3.mono hle7
            replace hw4 := hw4.mono hle7
            replace hw5 := hw5.mono hle7
            replace hw6 := hw6.mono hle7
            obtain ⟨gw5, rfl, hw7⟩ := hRw13
            refine wl_op (k := 16) (k' := 17) rfl rfl rfl (wo_run rfl rfl (run_assign rfl rfl) ?_)
            refine wl_end rfl ?_
            refine nm_blk ?_
            refine nm_sub [(0, _), (4, _), (5, _), (7, _), (34, _), (35, _), (36, _)] ⟨rfl, rfl, rfl, rfl, rfl, rfl, rfl, trivial⟩ ?_
            refine nm_thn ?_
            refine ws_region rfl ?_
            refine wl_op (k := 0) (k' := 1) rfl rfl rfl (wo_run rfl rfl (run_add rfl rfl rfl (by first | omega | (simp only [List.length_set, List.length_append, List.length_replicate, List.length_singleton, List.length_cons, List.length_nil]; omega))) ?_)
            refine wl_op (k := 1) (k' := 2) rfl rfl rfl (wo_run rfl rfl (run_move rfl rfl) ?_)
            refine wl_end rfl ?_
            refine nm_lp ?_
            intro ax_ hax_
            refine ⟨_, ?hq4m, ⟨k + 1, gw5, p + (((mm r k) * (dS mm n (clr t k))) * mono 0 (1 - (2 * ((pcN (t / 2 ^ (k + 1)) 12 : Int) % 2)))), _, (((hle4.trans hle5).trans hle6).trans hle7), rfl, hax_.sub ⟨rfl, rfl, rfl, rfl, rfl, rfl, rfl, trivial⟩, S15.pick [0] [_] (by decide) ⟨rfl, trivial⟩, ?hq4f0, ?hq4f1, ?hq4f2⟩⟩
            case hq4f0 => omega
            case hq4f1 => exact hw7.up (by omega)
            case hq4f2 => (rw [sm, ← hp]; unfold dTerm; rw [if_pos hbit, ← hab]; exact congrArg (p + ·) (sg_mono _ _ rfl))
            case hq4m => omega
        · have hb37 := of_decide_eq_false hb37
          refine ws_exit rfl rfl ?_
          refine nm_sub [(0, _), (4, _), (5, _), (7, _)] ⟨rfl, rfl, rfl, rfl, trivial⟩ ?_
          refine nm_thn ?_
          refine ws_region rfl ?_
          refine wl_op (k := 0) (k' := 1) rfl rfl rfl (wo_run rfl rfl (run_move rfl rfl) ?_)
          refine wl_op (k := 1) (k' := 2) rfl rfl rfl (wo_run rfl rfl (run_move rfl rfl) ?_)
          refine wl_op (k := 2) (k' := 3) rfl rfl rfl (wo_run rfl rfl (run_move rfl rfl) ?_)
          refine wl_op (k := 3) (k' := 4) rfl rfl rfl (wo_run rfl rfl (run_indexR (C := (cdMap 87)) (i := 0) t rfl rfl rfl sl94 S11 rfl (by first | rfl | omega) (by first | omega | (simp only [List.length_set, List.length_append, List.length_replicate, List.length_singleton, List.length_cons, List.length_nil]; omega))) ?_)
          have hw8 : Wk M4 go (pcN t 12 * B) (dS mm n t) := by rw [show (dS mm n t) = p from (by rw [hp, show k = n by omega]; exact dS_step (by omega) (by omega) hr)]; exact hwo
          refine wl_op (k := 4) (k' := 5) rfl rfl rfl (wo_storeR (C := (cdMap 87)) (i := 0) (e := t) (j := 0) (us := [_]) (H' := [_]) (some go) rfl rfl S11 rfl (by first | omega | (simp only [List.length_set, List.length_append, List.length_replicate, List.length_singleton, List.length_cons, List.length_nil]; omega)) rfl rfl rfl sz87 rfl rfl rfl rfl ?_)
          intro w15 S17; clear S11
          have hd3 := hws.set_ (i := t) (hw8.up (by exact Nat.le_refl _)) (by first | omega | (simp only [List.length_set, List.length_append, List.length_replicate, List.length_singleton, List.length_cons, List.length_nil]; omega))
          refine wl_end rfl ?_
          refine nm_blk ?_
          refine nm_sub [(0, _), (4, _), (5, _)] ⟨rfl, rfl, rfl, trivial⟩ ?_
          refine nm_thn ?_
          refine ws_region rfl ?_
          refine wl_op (k := 0) (k' := 1) rfl rfl rfl (wo_run rfl rfl (run_move rfl rfl) ?_)
          refine wl_op (k := 1) (k' := 2) rfl rfl rfl (wo_run rfl rfl (run_add rfl rfl rfl (by first | omega | (simp only [List.length_set, List.length_append, List.length_replicate, List.length_singleton, List.length_cons, List.length_nil]; omega))) ?_)
          refine wl_op (k := 2) (k' := 3) rfl rfl rfl (wo_run rfl rfl (run_assign rfl rfl) ?_)
          refine wl_end rfl ?_
          refine nm_lp ?_
          intro ax_ hax_
          refine ⟨_, ?hq5m, ⟨t + 1, _, (ps.set t (some (dS mm n t))), _, _, ((hle2.trans hle3).trans hle4), rfl, hax_.sub ⟨rfl, rfl, rfl, trivial⟩, S17.pick [0] [_] (by decide) ⟨rfl, trivial⟩, ?hq5f0, ?hq5f1, ?hq5f2, ?hq5f3⟩⟩
          case hq5f0 => omega
          case hq5f1 => simpa using hgl
          case hq5f2 => (intro j hj; rw [ga_set _ _ _ _ (by omega)]; split; (rename_i e; subst e; rfl); exact hps j (by omega))
          case hq5f3 => exact hd3
          case hq5m => omega
    · have hb23 := of_decide_eq_false hb23
      refine ws_exit rfl rfl ?_
      refine nm_sub [(4, _)] ⟨rfl, trivial⟩ ?_
      refine nm_thn ?_
      refine ws_seqN Determinant_n53 Determinant_n54 rfl rfl rfl ?_
      refine ws_region rfl ?_
      refine wl_op (k := 0) (k' := 1) rfl rfl rfl (wo_run rfl rfl (run_move rfl rfl) ?_)
      refine wl_op (k := 1) (k' := 2) rfl rfl rfl (wo_run rfl rfl (run_move rfl rfl) ?_)
      refine wl_op (k := 2) (k' := 3) rfl rfl rfl (wo_run rfl rfl (run_lenR (C := (cdMap 87)) (i := 0) rfl rfl rfl rfl rfl rfl sl94 S7 rfl) ?_)
      refine wl_op (k := 3) (k' := 4) rfl rfl rfl (wo_run rfl rfl (run_sub rfl rfl rfl (by first | omega | (simp only [List.length_set, List.length_append, List.length_replicate, List.length_singleton, List.length_cons, List.length_nil]; omega))) ?_)
      refine wl_op (k := 4) (k' := 5) rfl rfl rfl (wo_run rfl rfl (run_indexR (C := (cdMap 87)) (i := 0) (((gs.length : Int) - 1).toNat) rfl rfl rfl sl94 S7 rfl (by first | rfl | omega) (by first | omega | (simp only [List.length_set, List.length_append, List.length_replicate, List.length_singleton, List.length_cons, List.length_nil]; omega))) ?_)
      obtain ⟨gw6, eg3, hw9⟩ := hws.get (i := ((gs.length : Int) - 1).toNat) (p := detP mm n) (by first | omega | (simp only [List.length_set, List.length_append, List.length_replicate, List.length_singleton, List.length_cons, List.length_nil]; omega)) (by rw [show (((gs.length : Int) - 1).toNat) = 2 ^ n - 1 by omega, hps _ (by omega)]; exact congrArg some (dS_full mm (by omega)))
      replace hw9 : Wk _ gw6 (pcN (((gs.length : Int) - 1).toNat) 12 * B) (detP mm n) := hw9
      refine wl_op (k := 5) (k' := 6) rfl rfl rfl (wo_run rfl rfl (run_load1 rfl rfl Try.underlying87 rfl (S7.rowc (i := 0) (e := ((gs.length : Int) - 1).toNat) (j := 0) rfl (by first | omega | (simp only [List.length_set, List.length_append, List.length_replicate, List.length_singleton, List.length_cons, List.length_nil]; omega)) rfl (congrArg (fun n => some (Value.map n)) eg3))) ?_)
      refine wl_op (k := 6) (k' := 7) rfl rfl rfl (wo_run rfl rfl (run_assign rfl rfl) ?_)
      refine wl_end rfl ?_
      refine nm_sub [(2, _)] ⟨rfl, trivial⟩ ?_
      refine nm_thn ?_
      refine ws_ret hC [_] rfl rfl ⟨rfl, trivial⟩ ?_
      refine ⟨_, rfl, _, hle1.trans hle2, (S7.pick [] [] (by decide) trivial), ?_⟩
      exact ⟨_, rfl, hw9.up (pc_mul _ _)⟩

end Go.Proofs.Ytkcighnochjlgaa
