/- Part 10 of the proof of the law AlexTables: the walks through its functions and the plain laws that they need. -/
import Derived.Test.YtkcighnochjlgaaAlTZ9
import Derived.Lib.SmallJoins
import Derived.Deep.Slices
import Derived.Deep.Fields
import Derived.ChangeSame
set_option linter.unusedSimpArgs false
set_option linter.unusedVariables false
namespace Go.Proofs.Ytkcighnochjlgaa
open Go.ChangeShapes Go.WideShapes Go.ChangeAt Go.RowKit
def Rok (L : List (List Tm)) : Prop := ∀ k, k < L.length → Can (ga L k) ∧ Bd (ga L k) 1
theorem rok_rep (m : Nat) : Rok (List.replicate m []) := fun k hk => by
  rw [List.length_replicate] at hk
  rw [ga_rep _ _ _ hk]
  exact ⟨Can.nil_, fun t ht => by cases ht⟩
theorem rok_put {L : List (List Tm)} (h : Rok L) (k : Nat) {e c : Int} (he : 0 ≤ e ∧ e ≤ 1) (hc : -1 ≤ c ∧ c ≤ 1) : Rok (putA L k e c) := fun j hj => by
  rw [putA_len] at hj
  unfold putA
  by_cases hk : k < L.length
  · rw [ga_set _ _ _ _ hk]
    split
    · exact ⟨put_can (h k hk).1 (wr_id (by omega)) (wr_id (by omega)), put_bd (h k hk).2 (by omega)⟩
    · exact h j hj
  · rw [List.set_eq_of_length_le (by omega)]
    exact h j hj
theorem rok1 (d : Dg) (i : Nat) : Rok (row1 d i) := rok_put (rok_rep _) _ (by omega) (by omega)
theorem rok2 (d : Dg) (i : Nat) : Rok (row2 d i) := rok_put (rok1 d i) _ (by omega) (by omega)
theorem rokL (d : Dg) (i : Nat) : Rok (rowL d i) := rok_put (rok_put (rok2 d i) _ (by omega) (by omega)) _ (by omega) (by omega)
theorem rok_len {L : List (List Tm)} (h : Rok L) {k : Nat} (hk : k < L.length) : (ga L k).length ≤ 3 := can_len (h k hk).1 (h k hk).2
theorem tblA_len (d : Dg) : (tblA d).length = d.crs.length := by simp [tblA]
theorem tblA_ga (d : Dg) {i : Nat} (h : i < d.crs.length) : ga (tblA d) i = rowL d i := by
  unfold tblA
  rw [ga_map _ _ _ (by rw [List.length_range]; exact h), ga_eq (by rw [List.length_range]; exact h), List.getElem_range]
theorem tblA_cls (d : Dg) {i k : Nat} (h : i < d.crs.length) (hk : k < mny d) : ga (ga ((tblA d).map fun r => r.map fW) i) k = some (mk (pr (ga (rowL d i) k))) := by
  rw [ga_map _ _ _ (by rw [tblA_len]; exact h), tblA_ga d h, fW_ga _ (by rw [rowL_len]; exact hk)]
theorem take_rep_set {α : Type} [Inhabited α] (L : List α) (y : α) (k : Nat) (h : k < L.length) : (L.take k ++ List.replicate (L.length - k) y).set k (ga L k) = L.take (k + 1) ++ List.replicate (L.length - (k + 1)) y := by
  have h1 : (L.take k).length = k := by rw [List.length_take]; omega
  rw [List.set_append_right _ _ (by omega), h1, Nat.sub_self, show L.length - k = (L.length - (k + 1)) + 1 by omega, List.replicate_succ, List.set_cons_zero, take_ga L k h, List.append_assoc]
  rfl
theorem kO_tail {d : Dg} (h : arcsB d = true) {a : Int} (ha : 1 ≤ a ∧ a ≤ 2 * (d.crs.length : Int)) : 0 ≤ a - 1 ∧ (a - 1).toNat < (ovTail d).length ∧ ga (ovTail d) (a - 1).toNat = (kO d a : Int) := by
  have h1 := ov_lt h (a := a.toNat) (by omega) (by omega)
  have hl : (ovTail d).length = 2 * d.crs.length := by simp [ovTail]
  refine ⟨by omega, by omega, ?_⟩
  rw [ga_eq (by omega)]
  simp only [ovTail, List.getElem_map, List.getElem_range]
  rw [show (a - 1).toNat + 1 = a.toNat by omega]
  unfold kO
  omega
theorem ovTail_bd {d : Dg} (h : arcsB d = true) (hn : d.crs.length ≤ 16) : ∀ i, i < (ovTail d).length → 0 ≤ ga (ovTail d) i ∧ ga (ovTail d) i ≤ 100 := fun i hi => by
  have hl : (ovTail d).length = 2 * d.crs.length := by simp [ovTail]
  have h1 := ov_lt h (a := i + 1) (by omega) (by omega)
  have h2 := rk_bd d (2 * d.crs.length + 1)
  rw [ga_eq hi]
  simp only [ovTail, List.getElem_map, List.getElem_range]
  omega
def TabT (d : Dg) (u : Value) (N : Hp) : Prop := (errK d 10 ≠ 0 ∧ u = .tuple [.slice none 0 0, .int .i64 (errK d 10)].toArray) ∨ (errK d 10 = 0 ∧ ∃ A c vs ss, u = .tuple [.slice A vs.length c, .int .i64 0].toArray ∧ RdA (cdV 43) N A c vs ∧ Rd2 (cdV 22) N vs ss ∧ RdD cdTm N ss (tblA d))
noncomputable def ATab_n0 : Code := Try.f33.body.getD .skip
noncomputable def ATab_n1 : Code := cL ATab_n0
noncomputable def ATab_n2 : Code := cR ATab_n0
noncomputable def ATab_n3 : Code := cL ATab_n2
noncomputable def ATab_n4 : Code := cR ATab_n2
noncomputable def ATab_n5 : Code := cL ATab_n4
noncomputable def ATab_n6 : Code := cR ATab_n4
noncomputable def ATab_n7 : Code := cL ATab_n5
noncomputable def ATab_n8 : Code := cR ATab_n5
noncomputable def ATab_n9 : Code := cL ATab_n8
noncomputable def ATab_n10 : Code := cR ATab_n8
noncomputable def ATab_n11 : Code := cL ATab_n9
noncomputable def ATab_n12 : Code := cR ATab_n9
noncomputable def ATab_n13 : Code := cL ATab_n6
noncomputable def ATab_n14 : Code := cR ATab_n6
noncomputable def ATab_n15 : Code := cL ATab_n14
noncomputable def ATab_n16 : Code := cR ATab_n14
noncomputable def ATab_n17 : Code := cL ATab_n15
noncomputable def ATab_n18 : Code := cR ATab_n15
noncomputable def ATab_n19 : Code := cL ATab_n18
noncomputable def ATab_n20 : Code := cL ATab_n19
noncomputable def ATab_n21 : Code := cL ATab_n20
noncomputable def ATab_n22 : Code := cR ATab_n20
noncomputable def ATab_n23 : Code := cL ATab_n22
noncomputable def ATab_n24 : Code := cR ATab_n22
noncomputable def ATab_n25 : Code := cL ATab_n23
noncomputable def ATab_n26 : Code := cR ATab_n23
noncomputable def ATab_n27 : Code := cL ATab_n24
noncomputable def ATab_n28 : Code := cR ATab_n24
noncomputable def ATab_n29 : Code := cL ATab_n27
noncomputable def ATab_n30 : Code := cL ATab_n29
noncomputable def ATab_n31 : Code := cR ATab_n29
noncomputable def ATab_n32 : Code := cL ATab_n31
noncomputable def ATab_n33 : Code := cR ATab_n31
noncomputable def ATab_n34 : Code := cL ATab_n33
noncomputable def ATab_n35 : Code := cR ATab_n33
noncomputable def ATab_n36 : Code := cL ATab_n34
noncomputable def ATab_n37 : Code := cR ATab_n34
noncomputable def ATab_n38 : Code := cL ATab_n37
noncomputable def ATab_n39 : Code := cL ATab_n38
noncomputable def ATab_n40 : Code := cL ATab_n39
noncomputable def ATab_n41 : Code := cR ATab_n39
noncomputable def ATab_n42 : Code := cL ATab_n41
noncomputable def ATab_n43 : Code := cR ATab_n41
noncomputable def ATab_n44 : Code := cL ATab_n42
noncomputable def ATab_n45 : Code := cR ATab_n42
noncomputable def ATab_n46 : Code := cL ATab_n43
noncomputable def ATab_n47 : Code := cR ATab_n43
noncomputable def ATab_n48 : Code := cL ATab_n46
noncomputable def ATab_n49 : Code := cL ATab_n48
noncomputable def ATab_n50 : Code := cR ATab_n48
noncomputable def ATab_n51 : Code := cL ATab_n16
noncomputable def ATab_n52 : Code := cR ATab_n16
set_option maxHeartbeats 1000000 in
set_option maxRecDepth 10000 in
theorem ATab_t {w : World} {M : Hp} {X : Fr} (d : Dg) {dcrsA : Option Addr} {dcrsc : Nat} (hdcrs : RdA cdCr (M.un X.h) dcrsA dcrsc d.crs) (S : SH w M X []) : Ct Try.prog 33 [.agg [.slice dcrsA d.crs.length dcrsc, .int .i64 d.loops].toArray] w M X (TabT d) := by
  unfold Ct
  have rmhdcrs : d.crs.length * 40 ≤ 140737488355328 := hdcrs.room
  refine calls_in (b := ATab_n0) Try.func33 rfl Try.ntmps33 rfl (fun C hC => ?_)
  refine ws_sub [(0, _)] ⟨rfl, trivial⟩ ?_
  refine ws_seqN ATab_n1 ATab_n2 rfl rfl rfl ?_
  refine ws_region rfl ?_
  refine wl_op (k := 0) (k' := 1) rfl rfl rfl (wo_box (l := [_, _]) rfl rfl rfl rfl rfl S ?_)
  intro gb1 w1 S1; clear S
  refine wl_op (k := 1) (k' := 2) rfl rfl rfl (wo_run rfl rfl (run_assign rfl rfl) ?_)
  refine wl_op (k := 2) (k' := 3) rfl rfl rfl (wo_run rfl rfl (run_assign rfl rfl) ?_)
  refine wl_end rfl ?_
  refine nm_sub [(1, _)] ⟨rfl, trivial⟩ ?_
  refine nm_thn ?_
  refine ws_seqN ATab_n3 ATab_n4 rfl rfl rfl ?_
  refine ws_region rfl ?_
  refine wl_op (k := 0) (k' := 1) rfl rfl rfl (wo_run rfl rfl (run_loadN (us := [_, _]) rfl rfl Try.underlying51 rfl sz51 (S1.boxcs (i := 0) rfl ⟨rfl, rfl, trivial⟩)) ?_)
  refine wl_op (k := 1) (k' := 2) rfl rfl rfl (wo_ct rfl rfl rfl rfl rfl rfl rfl cf77 S1 (AOpen_t d (hdcrs.mono S1.un_XH) S1.lend) ?_)
  intro vw2 w2 M1 hle1 S2 hRw2; clear S1
  replace hdcrs := hdcrs.mono (Hp.un_mono hle1 S2.mx)
  rcases hRw2 with ⟨hopn14, rfl⟩ | ⟨hopn14, g1, cA14, iA14, oA14, cc14, ic14, oc14, rfl, hsb14, hsc14, hsi14, hso14⟩
  · refine wl_op (k := 2) (k' := 3) rfl rfl rfl (wo_run rfl rfl (run_move rfl rfl) ?_)
    refine wl_op (k := 3) (k' := 4) rfl rfl rfl (wo_run rfl rfl (run_extract rfl rfl rfl) ?_)
    refine wl_op (k := 4) (k' := 5) rfl rfl rfl (wo_run rfl rfl (run_extract rfl rfl rfl) ?_)
    refine wl_op (k := 5) (k' := 6) rfl rfl rfl (wo_run rfl rfl (run_assign rfl rfl) ?_)
    refine wl_op (k := 6) (k' := 7) rfl rfl rfl (wo_run rfl rfl (run_assign rfl rfl) ?_)
    refine wl_end rfl ?_
    refine nm_sub [(4, _), (5, _)] ⟨rfl, rfl, trivial⟩ ?_
    refine nm_thn ?_
    refine ws_seqN ATab_n5 ATab_n6 rfl rfl rfl ?_
    refine ws_seqN ATab_n7 ATab_n8 rfl rfl rfl ?_
    refine ws_region rfl ?_
    refine wl_op (k := 0) (k' := 1) rfl rfl rfl (wo_run rfl rfl (run_move rfl rfl) ?_)
    refine wl_op (k := 1) (k' := 2) rfl rfl rfl (wo_run rfl rfl (run_neq rfl rfl rfl) ?_)
    refine wl_end rfl ?_
    refine nm_sub [(4, _), (5, _), (18, _)] ⟨rfl, rfl, rfl, trivial⟩ ?_
    refine nm_thn ?_
    refine ws_condN ATab_n9 ATab_n10 rfl rfl rfl rfl (fun hb18 => ?_) (fun hb18 => ?_)
    · have hb18 := of_decide_eq_true hb18
      refine ws_seqN ATab_n11 ATab_n12 rfl rfl rfl ?_
      refine ws_region rfl ?_
      refine wl_op (k := 0) (k' := 1) rfl rfl rfl (wo_run rfl rfl (run_move rfl rfl) ?_)
      refine wl_op (k := 1) (k' := 2) rfl rfl rfl (wo_run rfl rfl (run_assign rfl rfl) ?_)
      refine wl_op (k := 2) (k' := 3) rfl rfl rfl (wo_run rfl rfl (run_assign rfl rfl) ?_)
      refine wl_end rfl ?_
      refine nm_sub [(2, _), (3, _)] ⟨rfl, rfl, trivial⟩ ?_
      refine nm_thn ?_
      refine ws_ret hC [_, _] rfl rfl ⟨rfl, rfl, trivial⟩ ?_
      refine ⟨_, rfl, _, hle1, (S2.pick [] [] (by decide) trivial), ?_⟩
      exact .inl ⟨hopn14, rfl⟩
    · have hb18 := of_decide_eq_false hb18
      exfalso; omega
  · obtain ⟨heO, hnm⟩ := errK_ok hopn14
    obtain ⟨hmo, hpl⟩ := errO_ok heO
    obtain ⟨hn, hab, hlo0, hlo1⟩ := mayO hmo
    refine wl_op (k := 2) (k' := 3) rfl rfl rfl (wo_run rfl rfl (run_move rfl rfl) ?_)
    refine wl_op (k := 3) (k' := 4) rfl rfl rfl (wo_run rfl rfl (run_extract rfl rfl rfl) ?_)
    refine wl_op (k := 4) (k' := 5) rfl rfl rfl (wo_run rfl rfl (run_extract rfl rfl rfl) ?_)
    refine wl_op (k := 5) (k' := 6) rfl rfl rfl (wo_run rfl rfl (run_assign rfl rfl) ?_)
    refine wl_op (k := 6) (k' := 7) rfl rfl rfl (wo_run rfl rfl (run_assign rfl rfl) ?_)
    refine wl_end rfl ?_
    refine nm_sub [(4, _), (5, _)] ⟨rfl, rfl, trivial⟩ ?_
    refine nm_thn ?_
    refine ws_seqN ATab_n5 ATab_n6 rfl rfl rfl ?_
    refine ws_seqN ATab_n7 ATab_n8 rfl rfl rfl ?_
    refine ws_region rfl ?_
    refine wl_op (k := 0) (k' := 1) rfl rfl rfl (wo_run rfl rfl (run_move rfl rfl) ?_)
    refine wl_op (k := 1) (k' := 2) rfl rfl rfl (wo_run rfl rfl (run_neq rfl rfl rfl) ?_)
    refine wl_end rfl ?_
    refine nm_sub [(4, _), (5, _), (18, _)] ⟨rfl, rfl, rfl, trivial⟩ ?_
    refine nm_thn ?_
    refine ws_condN ATab_n9 ATab_n10 rfl rfl rfl rfl (fun hb18 => ?_) (fun hb18 => ?_)
    · have hb18 := of_decide_eq_true hb18
      exfalso; omega
    · have hb18 := of_decide_eq_false hb18
      refine ws_skip rfl ?_
      refine nm_sub [(4, _)] ⟨rfl, trivial⟩ ?_
      refine nm_thn ?_
      refine ws_seqN ATab_n13 ATab_n14 rfl rfl rfl ?_
      refine ws_region rfl ?_
      refine wl_op (k := 0) (k' := 1) rfl rfl rfl (wo_run rfl rfl (run_assign rfl rfl) ?_)
      refine wl_end rfl ?_
      refine nm_thn ?_
      refine ws_seqN ATab_n15 ATab_n16 rfl rfl rfl ?_
      refine ws_seqN ATab_n17 ATab_n18 rfl rfl rfl ?_
      refine ws_region rfl ?_
      refine wl_op (k := 0) (k' := 1) rfl rfl rfl (wo_run rfl rfl (run_move rfl rfl) ?_)
      refine wl_op (k := 1) (k' := 2) rfl rfl rfl (wo_ct rfl rfl rfl rfl rfl rfl rfl cf78 S2 (ATable_t d hsb14 hsc14 hsi14 hso14 hnm hab S2.lend) ?_)
      intro vw3 w3 M2 hle2 S3 hRw3; clear S2
      replace hdcrs := hdcrs.mono (Hp.un_mono hle2 S3.mx)
      replace hsb14 := hsb14.mono hle2
      replace hsc14 := hsc14.mono hle2
      replace hsi14 := hsi14.mono hle2
      replace hso14 := hso14.mono hle2
      obtain ⟨A1, c1, wv1, wg1, rfl, hr1, hd1, hW1⟩ := hRw3
      have htw := hd1.1
      have htx := hW1.1
      rw [List.length_map, tblA_len] at htx
      have htl : wv1.length = d.crs.length := by have h1 := hd1.1; have h2 := hW1.1; rw [List.length_map, tblA_len] at h2; omega
      have hgl : ∀ i, i < d.crs.length → (ga wg1 i).length = mny d := fun i hi => by have h1 := (hW1.2 i (by have := hd1.1; omega)).1; rw [ga_map _ _ _ (by rw [tblA_len]; exact hi), List.length_map, tblA_ga d hi, rowL_len] at h1; exact h1
      refine wl_op (k := 2) (k' := 3) rfl rfl rfl (wo_run rfl rfl (run_len rfl rfl rfl rfl rfl rfl Try.underlying93) ?_)
      refine wl_eq 22 (.int .i64 (d.crs.length : Int)) rfl (int_eq (by omega)) ?_
      refine wl_op (k := 3) (k' := 4) rfl rfl rfl (wo_run rfl rfl (run_move rfl rfl) ?_)
      refine wl_end rfl ?_
      refine nm_sub [(6, _), (21, _), (22, _), (23, _)] ⟨rfl, rfl, rfl, rfl, trivial⟩ ?_
      refine nm_thn ?_
      refine ws_blockN ATab_n19 0 rfl rfl rfl ?_
      have S4 := S3.nilrow (cdV 43); clear S3
      refine ws_loopE (fun mx_ ax_ wx_ => ∃ (i : Nat) (ov : List SlV) (os : List (List SlV)) (om : List (List (List Tm))) (vro : Value) (M3 : Hp), M2.le M3 ∧ mx_ = d.crs.length - i ∧ Env 49 [(6, vro), (21, .slice A1 wv1.length c1), (22, .int .i64 (d.crs.length : Int)), (23, .int .i64 (i : Int))] ax_ ∧ SH wx_ M3 X [Rs.row (cdV 43) vro ov] ∧ i ≤ d.crs.length ∧ om = (tblA d).take i ∧ Rd2 (cdV 22) M3 ov os ∧ RdD cdTm M3 os om) rfl ?_ ?_
      · intro ax_ hax_
        refine ⟨_, ⟨0, _, ([]), ([]), _, _, Hp.le_refl _, rfl, hax_.sub ⟨rfl, rfl, rfl, rfl, trivial⟩, S4.pick [0] [_] (by decide) ⟨rfl, trivial⟩, ?hq1f0, ?hq1f1, ?hq1f2, ?hq1f3⟩⟩
        case hq1f0 => omega
        case hq1f1 => rfl
        case hq1f2 => exact Rd2.nil_
        case hq1f3 => exact RdD.nil_
      · rintro m1 a1 w4 ⟨i, ov, os, om, vro, M3, hle3, rfl, he1, S5, hi, hom, ho2, ho3⟩
        clear S4
        refine ws_in he1 (c := ATab_n20) rfl ?_
        clear he1 a1
        replace hdcrs := hdcrs.mono (Hp.un_mono hle3 S5.mx)
        replace hsb14 := hsb14.mono hle3
        replace hsc14 := hsc14.mono hle3
        replace hsi14 := hsi14.mono hle3
        replace hso14 := hso14.mono hle3
        replace hr1 := hr1.mono hle3
        replace hd1 := hd1.mono hle3
        replace hW1 := hW1.mono hle3
        have ho21 := ho2.1
        have ho31 := ho3.1
        have hol : om.length = i := by rw [hom, List.length_take, tblA_len]; omega
        have hgli := hgl i
        refine ws_seqN ATab_n21 ATab_n22 rfl rfl rfl ?_
        refine ws_region rfl ?_
        refine wl_op (k := 0) (k' := 1) rfl rfl rfl (wo_run rfl rfl (run_lss rfl rfl rfl) ?_)
        refine wl_end rfl ?_
        refine nm_thn ?_
        refine ws_seqN ATab_n23 ATab_n24 rfl rfl rfl ?_
        refine ws_condN ATab_n25 ATab_n26 rfl rfl rfl rfl (fun hb24 => ?_) (fun hb24 => ?_)
        · have hb24 := of_decide_eq_true hb24
          refine ws_skip rfl ?_
          refine nm_sub [(6, _), (21, _), (22, _), (23, _)] ⟨rfl, rfl, rfl, rfl, trivial⟩ ?_
          refine nm_thn ?_
          refine ws_seqN ATab_n27 ATab_n28 rfl rfl rfl ?_
          refine ws_blockN ATab_n29 1 rfl rfl rfl ?_
          refine ws_seqN ATab_n30 ATab_n31 rfl rfl rfl ?_
          refine ws_region rfl ?_
          refine wl_op (k := 0) (k' := 1) rfl rfl rfl (wo_run rfl rfl (run_indexM (C := (cdV 94)) i rfl rfl rfl sl93 (by first | rfl | omega) hr1 (by first | omega | (simp only [List.length_set, List.length_append, List.length_replicate, List.length_singleton, List.length_cons, List.length_nil]; omega))) ?_)
          obtain ⟨hn1, hr2⟩ := hd1.2 i (by first | omega | (simp only [List.length_set, List.length_append, List.length_replicate, List.length_singleton, List.length_cons, List.length_nil]; omega))
          have rmhr2 : (ga wg1 i).length * 8 ≤ 140737488355328 := hr2.room
          have hW2 := hW1.2 i (by have := hW1.1; have := hd1.1; first | omega | (simp_all; omega))
          have hW2l := hW2.1
          refine wl_op (k := 1) (k' := 2) rfl rfl rfl (wo_run rfl rfl (run_load1 rfl rfl Try.underlying94 rfl (hr1.cell S5.m (i := i) (by first | omega | (simp only [List.length_set, List.length_append, List.length_replicate, List.length_singleton, List.length_cons, List.length_nil]; omega)) 0 rfl (congrArg (fun n => some (Value.slice _ n _)) hn1))) ?_)
          refine wl_op (k := 2) (k' := 3) rfl rfl rfl (wo_run rfl rfl (run_assign rfl rfl) ?_)
          refine wl_end rfl ?_
          refine nm_sub [(6, _), (21, _), (22, _), (23, _), (8, _)] ⟨rfl, rfl, rfl, rfl, rfl, trivial⟩ ?_
          refine nm_thn ?_
          refine ws_seqN ATab_n32 ATab_n33 rfl rfl rfl ?_
          have hgli2 := hgli (by omega)
          have hmb := rk_bd d (2 * d.crs.length + 1)
          have hmn : mny d ≤ 21 := by unfold mny; omega
          refine ws_region rfl ?_
          refine wl_op (k := 0) (k' := 1) rfl rfl rfl (wo_run rfl rfl (run_move rfl rfl) ?_)
          refine wl_op (k := 1) (k' := 2) rfl rfl rfl (wo_run rfl rfl (run_len rfl rfl rfl rfl rfl rfl Try.underlying94) ?_)
          refine wl_op (k := 2) (k' := 3) rfl rfl rfl (wo_make (C := (cdV 22)) ((ga wg1 i).length) rfl rfl rfl rfl rfl sl43 (by first | rfl | omega) (by show _ * 24 ≤ _; first | omega | (simp only [List.length_set, List.length_append, List.length_replicate, List.length_singleton, List.length_cons, List.length_nil]; omega)) S5 ?_)
          intro vr2 w5 S6; clear S5
          have hd2 : Rd2 cdTm M3 (List.replicate ((ga wg1 i).length) ((cdV 22)).z) (List.replicate ((ga wg1 i).length) []) := Rd2.rep _
          refine wl_op (k := 3) (k' := 4) rfl rfl rfl (wo_run rfl rfl (run_assign rfl rfl) ?_)
          refine wl_end rfl ?_
          refine nm_sub [(6, _), (21, _), (22, _), (23, _), (8, _), (9, _)] ⟨rfl, rfl, rfl, rfl, rfl, rfl, trivial⟩ ?_
          refine nm_thn ?_
          refine ws_seqN ATab_n34 ATab_n35 rfl rfl rfl ?_
          refine ws_seqN ATab_n36 ATab_n37 rfl rfl rfl ?_
          refine ws_region rfl ?_
          refine wl_op (k := 0) (k' := 1) rfl rfl rfl (wo_run rfl rfl (run_move rfl rfl) ?_)
          refine wl_op (k := 1) (k' := 2) rfl rfl rfl (wo_run rfl rfl (run_len rfl rfl rfl rfl rfl rfl Try.underlying94) ?_)
          refine wl_eq 31 (.int .i64 (mny d : Int)) rfl (int_eq (by rw [hgli2])) ?_
          refine wl_op (k := 2) (k' := 3) rfl rfl rfl (wo_run rfl rfl (run_move rfl rfl) ?_)
          refine wl_end rfl ?_
          refine nm_sub [(6, _), (21, _), (22, _), (23, _), (9, _), (30, _), (31, _), (32, _)] ⟨rfl, rfl, rfl, rfl, rfl, rfl, rfl, rfl, trivial⟩ ?_
          refine nm_thn ?_
          refine ws_blockN ATab_n38 2 rfl rfl rfl ?_
          refine ws_loopE (fun mx_ ax_ wx_ => ∃ (k : Nat) (lv : List SlV) (lx : List (List Tm)) (vrl : Value) (M4 : Hp), M3.le M4 ∧ mx_ = mny d - k ∧ Env 49 [(6, vro), (21, .slice A1 wv1.length c1), (22, .int .i64 (d.crs.length : Int)), (23, .int .i64 (i : Int)), (9, vrl), (30, .slice ((ga wv1 i).A) (ga wg1 i).length ((ga wv1 i).c)), (31, .int .i64 (mny d : Int)), (32, .int .i64 (k : Int))] ax_ ∧ SH wx_ M4 X [Rs.row (cdV 22) vrl lv, Rs.row (cdV 43) vro ov] ∧ k ≤ mny d ∧ lx = (rowL d i).take k ++ List.replicate (mny d - k) [] ∧ Rd2 cdTm M4 lv lx) rfl ?_ ?_
          · intro ax_ hax_
            refine ⟨_, ⟨0, _, (List.replicate ((ga wg1 i).length) []), _, _, Hp.le_refl _, rfl, hax_.sub ⟨rfl, rfl, rfl, rfl, rfl, rfl, rfl, rfl, trivial⟩, S6.pick [0, 1] [_, _] (by decide) ⟨rfl, rfl, trivial⟩, ?hq2f0, ?hq2f1, ?hq2f2⟩⟩
            case hq2f0 => omega
            case hq2f1 => (rw [hgli2]; simp)
            case hq2f2 => exact hd2
          · rintro m2 a2 w6 ⟨k, lv, lx, vrl, M4, hle4, rfl, he2, S7, hk, hlx, hl2⟩
            clear S6
            refine ws_in he2 (c := ATab_n39) rfl ?_
            clear he2 a2
            replace hdcrs := hdcrs.mono (Hp.un_mono hle4 S7.mx)
            replace hsb14 := hsb14.mono hle4
            replace hsc14 := hsc14.mono hle4
            replace hsi14 := hsi14.mono hle4
            replace hso14 := hso14.mono hle4
            replace hr1 := hr1.mono hle4
            replace hd1 := hd1.mono hle4
            replace hW1 := hW1.mono hle4
            replace ho2 := ho2.mono hle4
            replace ho3 := ho3.mono hle4
            replace hr2 := hr2.mono hle4
            replace hW2 := hW2.mono hle4
            replace hd2 := hd2.mono hle4
            have hl21 := hl2.1
            have hll : lx.length = mny d := by rw [hlx, List.length_append, List.length_take, List.length_replicate, rowL_len]; omega
            refine ws_seqN ATab_n40 ATab_n41 rfl rfl rfl ?_
            refine ws_region rfl ?_
            refine wl_op (k := 0) (k' := 1) rfl rfl rfl (wo_run rfl rfl (run_lss rfl rfl rfl) ?_)
            refine wl_end rfl ?_
            refine nm_thn ?_
            refine ws_seqN ATab_n42 ATab_n43 rfl rfl rfl ?_
            refine ws_condN ATab_n44 ATab_n45 rfl rfl rfl rfl (fun hb33 => ?_) (fun hb33 => ?_)
            · have hb33 := of_decide_eq_true hb33
              refine ws_skip rfl ?_
              refine nm_sub [(6, _), (21, _), (22, _), (23, _), (9, _), (30, _), (31, _), (32, _)] ⟨rfl, rfl, rfl, rfl, rfl, rfl, rfl, rfl, trivial⟩ ?_
              refine nm_thn ?_
              refine ws_seqN ATab_n46 ATab_n47 rfl rfl rfl ?_
              refine ws_blockN ATab_n48 3 rfl rfl rfl ?_
              refine ws_seqN ATab_n49 ATab_n50 rfl rfl rfl ?_
              refine ws_region rfl ?_
              refine wl_op (k := 0) (k' := 1) rfl rfl rfl (wo_run rfl rfl (run_move rfl rfl) ?_)
              refine wl_op (k := 1) (k' := 2) rfl rfl rfl (wo_run rfl rfl (run_indexM (C := (cdMap 87)) k rfl rfl rfl sl94 (by first | rfl | omega) hr2 (by first | omega | (simp only [List.length_set, List.length_append, List.length_replicate, List.length_singleton, List.length_cons, List.length_nil]; omega))) ?_)
              obtain ⟨gw1, eg1, hw1⟩ := hW2.get (i := k) (p := mk (pr (ga (rowL d i) k))) (by first | omega | (simp only [List.length_set, List.length_append, List.length_replicate, List.length_singleton, List.length_cons, List.length_nil]; omega)) (tblA_cls d (by omega) (by omega))
              replace hw1 : Wk _ gw1 1 (mk (pr (ga (rowL d i) k))) := hw1
              refine wl_op (k := 2) (k' := 3) rfl rfl rfl (wo_run rfl rfl (run_load1 rfl rfl Try.underlying87 rfl (hr2.cell S7.m (i := k) (by first | omega | (simp only [List.length_set, List.length_append, List.length_replicate, List.length_singleton, List.length_cons, List.length_nil]; omega)) 0 rfl (congrArg (fun n => some (Value.map n)) eg1))) ?_)
              refine wl_op (k := 3) (k' := 4) rfl rfl rfl (wo_run rfl rfl (run_assign rfl rfl) ?_)
              refine wl_op (k := 4) (k' := 5) rfl rfl rfl (wo_run rfl rfl (run_assign rfl rfl) ?_)
              refine wl_end rfl ?_
              refine nm_sub [(6, _), (21, _), (22, _), (23, _), (9, _), (30, _), (31, _), (32, _), (10, _), (11, _)] ⟨rfl, rfl, rfl, rfl, rfl, rfl, rfl, rfl, rfl, rfl, trivial⟩ ?_
              refine nm_thn ?_
              refine ws_region rfl ?_
              refine wl_op (k := 0) (k' := 1) rfl rfl rfl (wo_run rfl rfl (run_move rfl rfl) ?_)
              refine wl_op (k := 1) (k' := 2) rfl rfl rfl (wo_run rfl rfl (run_move rfl rfl) ?_)
              refine wl_op (k := 2) (k' := 3) rfl rfl rfl (wo_run rfl rfl (run_move rfl rfl) ?_)
              refine wl_op (k := 3) (k' := 4) rfl rfl rfl (wo_ct rfl rfl rfl rfl rfl rfl rfl cf65 S7 (FormW_t hw1 (by omega) S7.lend) ?_)
              intro vw7 w7 M5 hle5 S8 hRw7; clear S7
              replace hdcrs := hdcrs.mono (Hp.un_mono hle5 S8.mx)
              replace hsb14 := hsb14.mono hle5
              replace hsc14 := hsc14.mono hle5
              replace hsi14 := hsi14.mono hle5
              replace hso14 := hso14.mono hle5
              replace hr1 := hr1.mono hle5
              replace hd1 := hd1.mono hle5
              replace hW1 := hW1.mono hle5
              replace ho2 := ho2.mono hle5
              replace ho3 := ho3.mono hle5
              replace hr2 := hr2.mono hle5
              replace hW2 := hW2.mono hle5
              replace hd2 := hd2.mono hle5
              replace hl2 := hl2.mono hle5
              replace hw1 := hw1.mono hle5
              obtain ⟨A2, c2, l1, rfl, hr3, hcan1, hbd1, hmk1⟩ := hRw7
              refine wl_op (k := 4) (k' := 5) rfl rfl rfl (wo_run rfl rfl (run_indexR (C := (cdV 22)) (i := 0) k rfl rfl rfl sl43 S8 rfl (by first | rfl | omega) (by first | omega | (simp only [List.length_set, List.length_append, List.length_replicate, List.length_singleton, List.length_cons, List.length_nil]; omega))) ?_)
              refine wl_op (k := 5) (k' := 6) rfl rfl rfl (wo_storeR (C := (cdV 22)) (i := 0) (e := k) (j := 0) (us := [_]) (H' := [_, _]) (⟨A2, l1.length, c2⟩ : SlV) rfl rfl S8 rfl (by first | omega | (simp only [List.length_set, List.length_append, List.length_replicate, List.length_singleton, List.length_cons, List.length_nil]; omega)) rfl rfl rfl sz22 rfl rfl rfl rfl ?_)
              intro w8 S9; clear S8
              have hd3 := hl2.set_ hr3 k (by first | omega | (simp only [List.length_set, List.length_append, List.length_replicate, List.length_singleton, List.length_cons, List.length_nil]; omega))
              refine wl_end rfl ?_
              refine nm_blk ?_
              refine nm_sub [(6, _), (21, _), (22, _), (23, _), (9, _), (30, _), (31, _), (32, _)] ⟨rfl, rfl, rfl, rfl, rfl, rfl, rfl, rfl, trivial⟩ ?_
              refine nm_thn ?_
              refine ws_region rfl ?_
              refine wl_op (k := 0) (k' := 1) rfl rfl rfl (wo_run rfl rfl (run_add rfl rfl rfl (by first | omega | (simp only [List.length_set, List.length_append, List.length_replicate, List.length_singleton, List.length_cons, List.length_nil]; omega))) ?_)
              refine wl_op (k := 1) (k' := 2) rfl rfl rfl (wo_run rfl rfl (run_move rfl rfl) ?_)
              refine wl_end rfl ?_
              refine nm_lp ?_
              intro ax_ hax_
              refine ⟨_, ?hq3m, ⟨k + 1, _, (lx.set k l1), _, _, (hle4.trans hle5), rfl, hax_.sub ⟨rfl, rfl, rfl, rfl, rfl, rfl, rfl, rfl, trivial⟩, S9.pick [0, 1] [_, _] (by decide) ⟨rfl, rfl, trivial⟩, ?hq3f0, ?hq3f1, ?hq3f2⟩⟩
              case hq3f0 => omega
              case hq3f1 => (rw [can_ext hcan1 (rokL d i k (by rw [rowL_len]; omega)).1 hmk1, hlx]; have := take_rep_set (rowL d i) [] k (by rw [rowL_len]; omega); rw [rowL_len] at this; exact this)
              case hq3f2 => exact hd3
              case hq3m => omega
            · have hb33 := of_decide_eq_false hb33
              refine ws_exit rfl rfl ?_
              refine nm_sub [(6, _), (21, _), (22, _), (23, _), (9, _)] ⟨rfl, rfl, rfl, rfl, rfl, trivial⟩ ?_
              refine nm_thn ?_
              refine ws_region rfl ?_
              refine wl_op (k := 0) (k' := 1) rfl rfl rfl (wo_run rfl rfl (run_move rfl rfl) ?_)
              refine wl_op (k := 1) (k' := 2) rfl rfl rfl (wo_run rfl rfl (run_move rfl rfl) ?_)
              obtain ⟨M6, hle6, S10, ⟨A3, c3, e1, hr4⟩⟩ := S7.pubrow (i := 0) (H' := [_, _]) rfl rfl (by show _ * 24 ≤ _; first | omega | (simp only [List.length_set, List.length_append, List.length_replicate, List.length_singleton, List.length_cons, List.length_nil]; omega))
              clear S7; subst e1
              replace hdcrs := hdcrs.mono (Hp.un_mono hle6 S10.mx)
              replace hsb14 := hsb14.mono hle6
              replace hsc14 := hsc14.mono hle6
              replace hsi14 := hsi14.mono hle6
              replace hso14 := hso14.mono hle6
              replace hr1 := hr1.mono hle6
              replace hd1 := hd1.mono hle6
              replace hW1 := hW1.mono hle6
              replace ho2 := ho2.mono hle6
              replace ho3 := ho3.mono hle6
              replace hr2 := hr2.mono hle6
              replace hW2 := hW2.mono hle6
              replace hd2 := hd2.mono hle6
              replace hl2 := hl2.mono hle6
              refine wl_op (k := 2) (k' := 3) rfl rfl rfl (wo_buildSlice1 (C := (cdV 43)) (l := [_]) rfl rfl rfl rfl sl37 rfl rfl rfl rfl S10 ?_)
              intro gb2 w9 S11; clear S10
              refine wl_op (k := 3) (k' := 4) rfl rfl rfl (wo_append1 (C := (cdV 43)) (i := 2) (q := 0) (⟨A3, lv.length, c3⟩ : SlV) rfl rfl rfl rfl rfl rfl rfl rfl sl37 S11 rfl rfl rfl (by show (_ + 1) * 24 ≤ _; first | omega | (simp only [List.length_set, List.length_append, List.length_replicate, List.length_singleton, List.length_cons, List.length_nil]; omega)) ?_)
              intro vro1 w10 S12; clear S11
              have S13 := S12.pick [1, 2] [_, _] (by decide) ⟨rfl, rfl, trivial⟩; clear S12
              have hd4 := ho2.snoc (c := c3) hr4
              have hd5 := ho3.snoc hl2
              refine wl_op (k := 4) (k' := 5) rfl rfl rfl (wo_run rfl rfl (run_assign rfl rfl) ?_)
              refine wl_end rfl ?_
              refine nm_blk ?_
              refine nm_sub [(6, _), (21, _), (22, _), (23, _)] ⟨rfl, rfl, rfl, rfl, trivial⟩ ?_
              refine nm_thn ?_
              refine ws_region rfl ?_
              refine wl_op (k := 0) (k' := 1) rfl rfl rfl (wo_run rfl rfl (run_add rfl rfl rfl (by first | omega | (simp only [List.length_set, List.length_append, List.length_replicate, List.length_singleton, List.length_cons, List.length_nil]; omega))) ?_)
              refine wl_op (k := 1) (k' := 2) rfl rfl rfl (wo_run rfl rfl (run_move rfl rfl) ?_)
              refine wl_end rfl ?_
              refine nm_lp ?_
              intro ax_ hax_
              refine ⟨_, ?hq4m, ⟨i + 1, _, (os ++ [lv]), (om ++ [lx]), _, _, ((hle3.trans hle4).trans hle6), rfl, hax_.sub ⟨rfl, rfl, rfl, rfl, trivial⟩, S13.pick [1] [_] (by decide) ⟨rfl, trivial⟩, ?hq4f0, ?hq4f1, ?hq4f2, ?hq4f3⟩⟩
              case hq4f0 => omega
              case hq4f1 => (obtain rfl : k = mny d := (by omega); rw [take_ga _ i (by rw [tblA_len]; omega), ← hom, tblA_ga d (by omega), hlx, Nat.sub_self, List.replicate_zero, List.append_nil, List.take_of_length_le (by rw [rowL_len]; omega)])
              case hq4f2 => exact hd4
              case hq4f3 => exact hd5
              case hq4m => omega
        · have hb24 := of_decide_eq_false hb24
          refine ws_exit rfl rfl ?_
          refine nm_sub [(6, _)] ⟨rfl, trivial⟩ ?_
          refine nm_thn ?_
          refine ws_seqN ATab_n51 ATab_n52 rfl rfl rfl ?_
          refine ws_region rfl ?_
          refine wl_op (k := 0) (k' := 1) rfl rfl rfl (wo_run rfl rfl (run_move rfl rfl) ?_)
          refine wl_op (k := 1) (k' := 2) rfl rfl rfl (wo_run rfl rfl (run_assign rfl rfl) ?_)
          refine wl_op (k := 2) (k' := 3) rfl rfl rfl (wo_run rfl rfl (run_assign rfl rfl) ?_)
          refine wl_end rfl ?_
          refine nm_sub [(2, _), (3, _)] ⟨rfl, rfl, trivial⟩ ?_
          refine nm_thn ?_
          obtain ⟨M7, hle7, S14, ⟨A4, c4, e2, hr5⟩⟩ := S5.pubrow (i := 0) (H' := [_]) rfl rfl (by show _ * 24 ≤ _; first | omega | (simp only [List.length_set, List.length_append, List.length_replicate, List.length_singleton, List.length_cons, List.length_nil]; omega))
          clear S5; subst e2
          replace hdcrs := hdcrs.mono (Hp.un_mono hle7 S14.mx)
          replace hsb14 := hsb14.mono hle7
          replace hsc14 := hsc14.mono hle7
          replace hsi14 := hsi14.mono hle7
          replace hso14 := hso14.mono hle7
          replace hr1 := hr1.mono hle7
          replace hd1 := hd1.mono hle7
          replace hW1 := hW1.mono hle7
          replace ho2 := ho2.mono hle7
          replace ho3 := ho3.mono hle7
          refine ws_ret hC [_, _] rfl rfl ⟨rfl, rfl, trivial⟩ ?_
          refine ⟨_, rfl, _, ((hle1.trans hle2).trans hle3).trans hle7, (S14.pick [] [] (by decide) trivial), ?_⟩
          obtain rfl : i = d.crs.length := by omega
          have e2 : om = tblA d := by rw [hom, List.take_of_length_le (by rw [tblA_len]; omega)]
          rw [e2] at ho3
          exact .inr ⟨hopn14, _, _, _, _, rfl, hr5, ho2, ho3⟩
noncomputable def TableOf_n0 : Code := Try.f36.body.getD .skip
noncomputable def TableOf_n1 : Code := cL TableOf_n0
noncomputable def TableOf_n2 : Code := cR TableOf_n0
noncomputable def TableOf_n3 : Code := cL TableOf_n2
noncomputable def TableOf_n4 : Code := cR TableOf_n2
noncomputable def TableOf_n5 : Code := cL TableOf_n4
noncomputable def TableOf_n6 : Code := cR TableOf_n4
noncomputable def TableOf_n7 : Code := cL TableOf_n6
noncomputable def TableOf_n8 : Code := cR TableOf_n6
noncomputable def TableOf_n9 : Code := cL TableOf_n8
noncomputable def TableOf_n10 : Code := cR TableOf_n8
noncomputable def TableOf_n11 : Code := cL TableOf_n9
noncomputable def TableOf_n12 : Code := cR TableOf_n9
noncomputable def TableOf_n13 : Code := cL TableOf_n12
noncomputable def TableOf_n14 : Code := cL TableOf_n13
noncomputable def TableOf_n15 : Code := cL TableOf_n14
noncomputable def TableOf_n16 : Code := cR TableOf_n14
noncomputable def TableOf_n17 : Code := cL TableOf_n15
noncomputable def TableOf_n18 : Code := cR TableOf_n15
noncomputable def TableOf_n19 : Code := cL TableOf_n18
noncomputable def TableOf_n20 : Code := cR TableOf_n18
noncomputable def TableOf_n21 : Code := cL TableOf_n16
noncomputable def TableOf_n22 : Code := cR TableOf_n16
noncomputable def TableOf_n23 : Code := cL TableOf_n21
noncomputable def TableOf_n24 : Code := cL TableOf_n23
noncomputable def TableOf_n25 : Code := cR TableOf_n23
noncomputable def TableOf_n26 : Code := cL TableOf_n25
noncomputable def TableOf_n27 : Code := cR TableOf_n25
noncomputable def TableOf_n28 : Code := cL TableOf_n27
noncomputable def TableOf_n29 : Code := cR TableOf_n27
noncomputable def TableOf_n30 : Code := cL TableOf_n29
noncomputable def TableOf_n31 : Code := cR TableOf_n29
noncomputable def TableOf_n32 : Code := cL TableOf_n30
noncomputable def TableOf_n33 : Code := cR TableOf_n30
noncomputable def TableOf_n34 : Code := cL TableOf_n33
noncomputable def TableOf_n35 : Code := cR TableOf_n33
noncomputable def TableOf_n36 : Code := cL TableOf_n31
noncomputable def TableOf_n37 : Code := cR TableOf_n31
noncomputable def TableOf_n38 : Code := cL TableOf_n37
noncomputable def TableOf_n39 : Code := cR TableOf_n37
noncomputable def TableOf_n40 : Code := cL TableOf_n39
noncomputable def TableOf_n41 : Code := cR TableOf_n39
noncomputable def TableOf_n42 : Code := cL TableOf_n41
noncomputable def TableOf_n43 : Code := cR TableOf_n41
noncomputable def TableOf_n44 : Code := cL TableOf_n10
noncomputable def TableOf_n45 : Code := cR TableOf_n10
set_option maxHeartbeats 1000000 in
set_option maxRecDepth 10000 in
theorem TableOf_t {w : World} {M : Hp} {X : Fr} (d : Dg) {dcrsA : Option Addr} {dcrsc : Nat} (hdcrs : RdA cdCr (M.un X.h) dcrsA dcrsc d.crs) (hn : d.crs.length ≤ 16) (hab : arcsB d = true) (S : SH w M X []) : Ct Try.prog 36 [.agg [.slice dcrsA d.crs.length dcrsc, .int .i64 d.loops].toArray] w M X (fun u N => ∃ A c vs ss, u = .slice A vs.length c ∧ RdA (cdV 43) N A c vs ∧ Rd2 (cdV 22) N vs ss ∧ RdD cdTm N ss (tblA d)) := by
  unfold Ct
  have rmhdcrs : d.crs.length * 40 ≤ 140737488355328 := hdcrs.room
  refine calls_in (b := TableOf_n0) Try.func36 rfl Try.ntmps36 rfl (fun C hC => ?_)
  refine ws_sub [(0, _)] ⟨rfl, trivial⟩ ?_
  refine ws_seqN TableOf_n1 TableOf_n2 rfl rfl rfl ?_
  refine ws_region rfl ?_
  refine wl_op (k := 0) (k' := 1) rfl rfl rfl (wo_box (l := [_, _]) rfl rfl rfl rfl rfl S ?_)
  intro gb1 w1 S1; clear S
  refine wl_op (k := 1) (k' := 2) rfl rfl rfl (wo_run rfl rfl (run_assign rfl rfl) ?_)
  refine wl_end rfl ?_
  refine nm_sub [(1, _)] ⟨rfl, trivial⟩ ?_
  refine nm_thn ?_
  refine ws_seqN TableOf_n3 TableOf_n4 rfl rfl rfl ?_
  refine ws_region rfl ?_
  refine wl_op (k := 0) (k' := 1) rfl rfl rfl (wo_run rfl rfl (run_loadN (us := [_, _]) rfl rfl Try.underlying51 rfl sz51 (S1.boxcs (i := 0) rfl ⟨rfl, rfl, trivial⟩)) ?_)
  refine wl_op (k := 1) (k' := 2) rfl rfl rfl (wo_ct rfl rfl rfl rfl rfl rfl rfl cf79 S1 (OversOf_t d (hdcrs.mono S1.un_XH) (hn) (hab) S1.lend) ?_)
  intro vw2 w2 M1 hle1 S2 hRw2; clear S1
  replace hdcrs := hdcrs.mono (Hp.un_mono hle1 S2.mx)
  obtain ⟨A1, c1, rfl, hr1⟩ := hRw2
  have hovl : (ovTail d).length = 2 * d.crs.length := by simp [ovTail]
  refine wl_op (k := 2) (k' := 3) rfl rfl rfl (wo_run rfl rfl (run_assign rfl rfl) ?_)
  refine wl_end rfl ?_
  refine nm_sub [(1, _), (3, _)] ⟨rfl, rfl, trivial⟩ ?_
  refine nm_thn ?_
  refine ws_seqN TableOf_n5 TableOf_n6 rfl rfl rfl ?_
  refine ws_region rfl ?_
  refine wl_op (k := 0) (k' := 1) rfl rfl rfl (wo_run rfl rfl (run_move rfl rfl) ?_)
  refine wl_op (k := 1) (k' := 2) rfl rfl rfl (wo_cq rfl rfl rfl rfl rfl rfl rfl cf80 S2 (mostOf_q (ovTail d) (hr1.mono (Hp.le_un _ _)) ((ovTail_bd hab hn)) S2.lend) ?_)
  rintro _ w3 S3 rfl; clear S2
  refine wl_op (k := 2) (k' := 3) rfl rfl rfl (wo_run rfl rfl (run_assign rfl rfl) ?_)
  refine wl_end rfl ?_
  refine nm_sub [(1, _), (3, _), (4, _)] ⟨rfl, rfl, rfl, trivial⟩ ?_
  refine nm_thn ?_
  refine ws_seqN TableOf_n7 TableOf_n8 rfl rfl rfl ?_
  have hmb := rk_bd d (2 * d.crs.length + 1)
  have hmn : mostN (ovTail d) (ovTail d).length = (mny d : Int) := by rw [hovl, most_ov hab _ (Nat.le_refl _)]; unfold mny; omega
  have hmn2 : mny d ≤ 33 := by unfold mny; omega
  refine ws_eq 4 (.int .i64 (mny d : Int)) rfl (int_eq hmn) ?_
  refine ws_region rfl ?_
  refine wl_op (k := 0) (k' := 1) rfl rfl rfl (wo_run rfl rfl (run_assign rfl rfl) ?_)
  refine wl_end rfl ?_
  refine nm_sub [(1, _), (3, _), (4, _), (5, _)] ⟨rfl, rfl, rfl, rfl, trivial⟩ ?_
  refine nm_thn ?_
  refine ws_seqN TableOf_n9 TableOf_n10 rfl rfl rfl ?_
  refine ws_seqN TableOf_n11 TableOf_n12 rfl rfl rfl ?_
  refine ws_region rfl ?_
  refine wl_op (k := 0) (k' := 1) rfl rfl rfl (wo_run rfl rfl (run_assign rfl rfl) ?_)
  refine wl_end rfl ?_
  refine nm_thn ?_
  refine ws_blockN TableOf_n13 0 rfl rfl rfl ?_
  have S4 := S3.nilrow (cdV 43); clear S3
  refine ws_loopE (fun mx_ ax_ wx_ => ∃ (i : Nat) (tv : List SlV) (tss : List (List SlV)) (tm : List (List (List Tm))) (vrt : Value) (M2 : Hp), M1.le M2 ∧ mx_ = d.crs.length - i ∧ Env 83 [(1, .pointer (some ⟨gb1, 0, none⟩)), (3, .slice A1 (ovTail d).length c1), (4, .int .i64 (mny d : Int)), (5, vrt), (6, .int .i64 (i : Int))] ax_ ∧ SH wx_ M2 X [Rs.row (cdV 43) vrt tv, Rs.box gb1 51 [.slice dcrsA d.crs.length dcrsc, .int .i64 d.loops]] ∧ i ≤ d.crs.length ∧ tm = (tblA d).take i ∧ Rd2 (cdV 22) M2 tv tss ∧ RdD cdTm M2 tss tm) rfl ?_ ?_
  · intro ax_ hax_
    refine ⟨_, ⟨0, _, ([]), ([]), _, _, Hp.le_refl _, rfl, hax_.sub ⟨rfl, rfl, rfl, rfl, rfl, trivial⟩, S4.pick [0, 1] [_, _] (by decide) ⟨rfl, rfl, trivial⟩, ?hq1f0, ?hq1f1, ?hq1f2, ?hq1f3⟩⟩
    case hq1f0 => omega
    case hq1f1 => rfl
    case hq1f2 => exact Rd2.nil_
    case hq1f3 => exact RdD.nil_
  · rintro m1 a1 w4 ⟨i, tv, tss, tm, vrt, M2, hle2, rfl, he1, S5, hi, htm, ht2, ht3⟩
    clear S4
    refine ws_in he1 (c := TableOf_n14) rfl ?_
    clear he1 a1
    replace hdcrs := hdcrs.mono (Hp.un_mono hle2 S5.mx)
    replace hr1 := hr1.mono hle2
    have ht21 := ht2.1
    have ht31 := ht3.1
    have htl : tm.length = i := by rw [htm, List.length_take, tblA_len]; omega
    have hba := fun h => arcAt_bd hab (i := i) h (k := 0) (by omega)
    have hbb := fun h => arcAt_bd hab (i := i) h (k := 1) (by omega)
    have hbc := fun h => arcAt_bd hab (i := i) h (k := 2) (by omega)
    refine ws_seqN TableOf_n15 TableOf_n16 rfl rfl rfl ?_
    refine ws_seqN TableOf_n17 TableOf_n18 rfl rfl rfl ?_
    refine ws_region rfl ?_
    refine wl_op (k := 0) (k' := 1) rfl rfl rfl (wo_run rfl rfl (run_move rfl rfl) ?_)
    refine wl_op (k := 1) (k' := 2) rfl rfl rfl (wo_run rfl rfl (run_fieldAddr rfl rfl Try.underlying51 rfl (ce49) (nf49)) ?_)
    refine wl_op (k := 2) (k' := 3) rfl rfl rfl (wo_run rfl rfl (run_load1 rfl rfl Try.underlying49 rfl (S5.boxc (i := 1) rfl rfl)) ?_)
    refine wl_op (k := 3) (k' := 4) rfl rfl rfl (wo_run rfl rfl (run_len rfl rfl rfl rfl rfl rfl Try.underlying49) ?_)
    refine wl_op (k := 4) (k' := 5) rfl rfl rfl (wo_run rfl rfl (run_lss rfl rfl rfl) ?_)
    refine wl_end rfl ?_
    refine nm_sub [(1, _), (3, _), (4, _), (5, _), (6, _), (20, _)] ⟨rfl, rfl, rfl, rfl, rfl, rfl, trivial⟩ ?_
    refine nm_thn ?_
    refine ws_condN TableOf_n19 TableOf_n20 rfl rfl rfl rfl (fun hb20 => ?_) (fun hb20 => ?_)
    · have hb20 := of_decide_eq_true hb20
      have hl1 := row1_len d i
      have hl2 := row2_len d i
      have hl3 := rowL_len d i
      obtain ⟨ka1, ka2, ka3⟩ := kO_tail hab (hba (by omega))
      obtain ⟨kb1, kb2, kb3⟩ := kO_tail hab (hbb (by omega))
      obtain ⟨kc1, kc2, kc3⟩ := kO_tail hab (hbc (by omega))
      obtain ⟨-, -, -, -, la⟩ := kO_ok hab (hba (by omega))
      obtain ⟨-, -, -, -, lb⟩ := kO_ok hab (hbb (by omega))
      obtain ⟨-, -, -, -, lc⟩ := kO_ok hab (hbc (by omega))
      change 0 ≤ (ga d.crs i).a - 1 at ka1
      change 0 ≤ (ga d.crs i).b - 1 at kb1
      change 0 ≤ (ga d.crs i).c - 1 at kc1
      change ((ga d.crs i).a - 1).toNat < _ at ka2
      change ((ga d.crs i).b - 1).toNat < _ at kb2
      change ((ga d.crs i).c - 1).toNat < _ at kc2
      change ga (ovTail d) ((ga d.crs i).a - 1).toNat = (kO d (ga d.crs i).a : Int) at ka3
      change ga (ovTail d) ((ga d.crs i).b - 1).toNat = (kO d (ga d.crs i).b : Int) at kb3
      change ga (ovTail d) ((ga d.crs i).c - 1).toNat = (kO d (ga d.crs i).c : Int) at kc3
      change kO d (ga d.crs i).a < mny d at la
      change kO d (ga d.crs i).b < mny d at lb
      change kO d (ga d.crs i).c < mny d at lc
      refine ws_skip rfl ?_
      refine nm_sub [(1, _), (3, _), (4, _), (5, _), (6, _)] ⟨rfl, rfl, rfl, rfl, rfl, trivial⟩ ?_
      refine nm_thn ?_
      refine ws_seqN TableOf_n21 TableOf_n22 rfl rfl rfl ?_
      refine ws_blockN TableOf_n23 1 rfl rfl rfl ?_
      refine ws_seqN TableOf_n24 TableOf_n25 rfl rfl rfl ?_
      refine ws_region rfl ?_
      refine wl_op (k := 0) (k' := 1) rfl rfl rfl (wo_run rfl rfl (run_fieldAddr rfl rfl Try.underlying51 rfl (ce49) (nf49)) ?_)
      refine wl_op (k := 1) (k' := 2) rfl rfl rfl (wo_run rfl rfl (run_load1 rfl rfl Try.underlying49 rfl (S5.boxc (i := 1) rfl rfl)) ?_)
      refine wl_op (k := 2) (k' := 3) rfl rfl rfl (wo_run rfl rfl (run_move rfl rfl) ?_)
      refine wl_op (k := 3) (k' := 4) rfl rfl rfl (wo_run rfl rfl (run_indexM (C := cdCr) i rfl rfl rfl sl49 (by first | rfl | omega) hdcrs (by first | omega | (simp only [List.length_set, List.length_append, List.length_replicate, List.length_singleton, List.length_cons, List.length_nil]; omega))) ?_)
      refine wl_op (k := 4) (k' := 5) rfl rfl rfl (wo_run rfl rfl (run_loadN (us := [_, _, _, _, _]) rfl rfl Try.underlying111 rfl sz111 (hdcrs.cellsAt S5.um (e := i) (by first | omega | (simp only [List.length_set, List.length_append, List.length_replicate, List.length_singleton, List.length_cons, List.length_nil]; omega)) (j := 0) ⟨rfl, rfl, rfl, rfl, rfl, trivial⟩)) ?_)
      refine wl_op (k := 5) (k' := 6) rfl rfl rfl (wo_alloc (l := [_, _, _, _, _]) rfl rfl rfl zr111 rfl S5 ?_)
      intro gb2 w5 S6; clear S5
      refine wl_op (k := 6) (k' := 7) rfl rfl rfl (wo_storeB (i := 0) (us := [_, _, _, _, _]) (l' := [_, _, _, _, _]) (H' := [_, _, _]) rfl rfl S6 rfl rfl rfl rfl sz111 rfl rfl rfl rfl ?_)
      intro w6 S7; clear S6
      refine wl_end rfl ?_
      refine nm_sub [(1, _), (3, _), (4, _), (5, _), (6, _), (7, _)] ⟨rfl, rfl, rfl, rfl, rfl, rfl, trivial⟩ ?_
      refine nm_thn ?_
      refine ws_seqN TableOf_n26 TableOf_n27 rfl rfl rfl ?_
      refine ws_region rfl ?_
      refine wl_op (k := 0) (k' := 1) rfl rfl rfl (wo_run rfl rfl (run_move rfl rfl) ?_)
      refine wl_op (k := 1) (k' := 2) rfl rfl rfl (wo_make (C := (cdV 22)) (mny d) rfl rfl rfl rfl rfl sl43 (by first | rfl | omega) (by show _ * 24 ≤ _; first | omega | (simp only [List.length_set, List.length_append, List.length_replicate, List.length_singleton, List.length_cons, List.length_nil]; omega)) S7 ?_)
      intro vr2 w7 S8; clear S7
      have hd1 : Rd2 cdTm M2 (List.replicate (mny d) ((cdV 22)).z) (List.replicate (mny d) []) := Rd2.rep _
      refine wl_op (k := 2) (k' := 3) rfl rfl rfl (wo_run rfl rfl (run_assign rfl rfl) ?_)
      refine wl_end rfl ?_
      refine nm_sub [(1, _), (3, _), (4, _), (5, _), (6, _), (7, _), (8, _)] ⟨rfl, rfl, rfl, rfl, rfl, rfl, rfl, trivial⟩ ?_
      refine nm_thn ?_
      refine ws_seqN TableOf_n28 TableOf_n29 rfl rfl rfl ?_
      refine ws_draw rfl (by kernel_rfl) S8 14 rfl ?_
      clear S8
      refine wa_takeP (i := 0) (d := 30) 13 rfl (by kernel_rfl) (by kernel_rfl) (by kernel_rfl) rfl rfl rfl (fun w8 => run_move rfl rfl) ?_
      refine wa_takeP (i := 1) (d := 31) 12 rfl (by kernel_rfl) (by kernel_rfl) (by kernel_rfl) rfl rfl rfl (fun w9 => run_fieldAddr rfl rfl Try.underlying111 rfl (ce3) (nf3)) ?_
      refine wa_take (i := 2) (d := 32) 11 rfl (by kernel_rfl) (by kernel_rfl) (by kernel_rfl) rfl rfl rfl (fun M5 N3 w10 hle5 S11 => .inl (run_load1 rfl rfl Try.underlying3 rfl (S11.suf.boxc (i := 1) rfl rfl))) ?_
      refine wa_takeP (i := 3) (d := 33) 10 rfl (by kernel_rfl) (by kernel_rfl) (by kernel_rfl) rfl rfl rfl (fun w11 => run_sub rfl rfl rfl (by first | omega | (simp only [List.length_set, List.length_append, List.length_replicate, List.length_singleton, List.length_cons, List.length_nil]; omega))) ?_
      refine wa_take (i := 4) (d := 34) 9 rfl (by kernel_rfl) (by kernel_rfl) (by kernel_rfl) rfl rfl rfl (fun M7 N5 w12 hle7 S13 => .inl (run_indexM (C := cdInt) ((((ga d.crs i).a) - 1).toNat) rfl rfl rfl sl36 (by first | rfl | omega) (hr1.mono hle7) (by first | omega | (simp only [List.length_set, List.length_append, List.length_replicate, List.length_singleton, List.length_cons, List.length_nil]; omega)))) ?_
      refine wa_take (i := 5) (d := 35) 8 rfl (by kernel_rfl) (by kernel_rfl) (by kernel_rfl) rfl rfl rfl (fun M8 N6 w13 hle8 S14 => .inl (run_load1 rfl rfl Try.underlying3 rfl ((hr1.mono hle8).cell S14.m (i := (((ga d.crs i).a) - 1).toNat) (by first | omega | (simp only [List.length_set, List.length_append, List.length_replicate, List.length_singleton, List.length_cons, List.length_nil]; omega)) 0 rfl rfl))) ?_
      refine wa_takeP (i := 6) (d := 36) 7 rfl (by kernel_rfl) (by kernel_rfl) (by kernel_rfl) rfl rfl rfl (fun w14 => run_move rfl rfl) ?_
      refine wa_takeP (i := 7) (d := 37) 6 rfl (by kernel_rfl) (by kernel_rfl) (by kernel_rfl) rfl rfl rfl (fun w15 => run_fieldAddr rfl rfl Try.underlying111 rfl (ce3) (nf3)) ?_
      refine wa_take (i := 8) (d := 38) 5 rfl (by kernel_rfl) (by kernel_rfl) (by kernel_rfl) rfl rfl rfl (fun M11 N9 w16 hle11 S17 => .inl (run_load1 rfl rfl Try.underlying3 rfl (S17.suf.boxc (i := 1) rfl rfl))) ?_
      refine wa_takeP (i := 9) (d := 39) 4 rfl (by kernel_rfl) (by kernel_rfl) (by kernel_rfl) rfl rfl rfl (fun w17 => run_sub rfl rfl rfl (by first | omega | (simp only [List.length_set, List.length_append, List.length_replicate, List.length_singleton, List.length_cons, List.length_nil]; omega))) ?_
      refine wa_take (i := 10) (d := 40) 3 rfl (by kernel_rfl) (by kernel_rfl) (by kernel_rfl) rfl rfl rfl (fun M13 N11 w18 hle13 S19 => .inl (run_indexM (C := cdInt) ((((ga d.crs i).c) - 1).toNat) rfl rfl rfl sl36 (by first | rfl | omega) (hr1.mono hle13) (by first | omega | (simp only [List.length_set, List.length_append, List.length_replicate, List.length_singleton, List.length_cons, List.length_nil]; omega)))) ?_
      refine wa_take (i := 11) (d := 41) 2 rfl (by kernel_rfl) (by kernel_rfl) (by kernel_rfl) rfl rfl rfl (fun M14 N12 w19 hle14 S20 => .inl (run_load1 rfl rfl Try.underlying3 rfl ((hr1.mono hle14).cell S20.m (i := (((ga d.crs i).c) - 1).toNat) (by first | omega | (simp only [List.length_set, List.length_append, List.length_replicate, List.length_singleton, List.length_cons, List.length_nil]; omega)) 0 rfl rfl))) ?_
      refine wa_takeP (i := 12) (d := 9) 1 rfl (by kernel_rfl) (by kernel_rfl) (by kernel_rfl) rfl rfl rfl (fun w20 => run_assign rfl rfl) ?_
      refine wa_takeP (i := 13) (d := 10) 0 rfl (by kernel_rfl) (by kernel_rfl) (by kernel_rfl) rfl rfl rfl (fun w21 => run_assign rfl rfl) ?_
      refine wa_end (by kernel_rfl) (fun w22 S23 => ?_)
      refine nm_sub [(1, _), (3, _), (4, _), (5, _), (6, _), (7, _), (8, _), (9, _), (10, _)] ⟨rfl, rfl, rfl, rfl, rfl, rfl, rfl, rfl, rfl, trivial⟩ ?_
      refine nm_thn ?_
      refine ws_seqN TableOf_n30 TableOf_n31 rfl rfl rfl ?_
      refine ws_seqN TableOf_n32 TableOf_n33 rfl rfl rfl ?_
      refine ws_eq 9 (.int .i64 (kO d (ga d.crs i).a : Int)) rfl (int_eq ka3) ?_
      refine ws_eq 10 (.int .i64 (kO d (ga d.crs i).c : Int)) rfl (int_eq kc3) ?_
      refine ws_region rfl ?_
      refine wl_op (k := 0) (k' := 1) rfl rfl rfl (wo_run rfl rfl (run_fieldAddr rfl rfl Try.underlying111 rfl (ce4) (nf4)) ?_)
      refine wl_op (k := 1) (k' := 2) rfl rfl rfl (wo_run rfl rfl (run_load1 rfl rfl Try.underlying4 rfl (S23.boxc (i := 1) rfl rfl)) ?_)
      refine wl_op (k := 2) (k' := 3) rfl rfl rfl (wo_run rfl rfl (run_not rfl rfl) ?_)
      refine wl_end rfl ?_
      refine nm_sub [(1, _), (3, _), (4, _), (5, _), (6, _), (7, _), (8, _), (9, _), (10, _), (44, _)] ⟨rfl, rfl, rfl, rfl, rfl, rfl, rfl, rfl, rfl, rfl, trivial⟩ ?_
      refine nm_thn ?_
      refine ws_condN TableOf_n34 TableOf_n35 rfl rfl rfl rfl (fun hb44 => ?_) (fun hb44 => ?_)
      · simp only [Bool.and_eq_true, Bool.or_eq_true, Bool.and_eq_false_iff, Bool.or_eq_false_iff, decide_eq_true_eq, decide_eq_false_iff_not, Bool.not_eq_true', Bool.not_eq_false'] at hb44
        have hin : inA (ga d.crs i) = (ga d.crs i).c := by unfold inA; simp [*]
        have hto : toA (ga d.crs i) = (ga d.crs i).a := by unfold toA; simp [*]
        refine ws_region rfl ?_
        refine wl_op (k := 0) (k' := 1) rfl rfl rfl (wo_run rfl rfl (run_move rfl rfl) ?_)
        refine wl_op (k := 1) (k' := 2) rfl rfl rfl (wo_run rfl rfl (run_move rfl rfl) ?_)
        refine wl_op (k := 2) (k' := 3) rfl rfl rfl (wo_run rfl rfl (run_assign rfl rfl) ?_)
        refine wl_op (k := 3) (k' := 4) rfl rfl rfl (wo_run rfl rfl (run_assign rfl rfl) ?_)
        refine wl_end rfl ?_
        refine nm_sub [(1, _), (3, _), (4, _), (5, _), (6, _), (7, _), (8, _), (9, _), (10, _)] ⟨rfl, rfl, rfl, rfl, rfl, rfl, rfl, rfl, rfl, trivial⟩ ?_
        refine nm_thn ?_
        refine ws_seqN TableOf_n36 TableOf_n37 rfl rfl rfl ?_
        refine ws_region rfl ?_
        refine wl_op (k := 0) (k' := 1) rfl rfl rfl (wo_run rfl rfl (run_move rfl rfl) ?_)
        refine wl_op (k := 1) (k' := 2) rfl rfl rfl (wo_run rfl rfl (run_fieldAddr rfl rfl Try.underlying111 rfl (ce3) (nf3)) ?_)
        refine wl_op (k := 2) (k' := 3) rfl rfl rfl (wo_run rfl rfl (run_load1 rfl rfl Try.underlying3 rfl (S23.boxc (i := 1) rfl rfl)) ?_)
        refine wl_op (k := 3) (k' := 4) rfl rfl rfl (wo_run rfl rfl (run_sub rfl rfl rfl (by first | omega | (simp only [List.length_set, List.length_append, List.length_replicate, List.length_singleton, List.length_cons, List.length_nil]; omega))) ?_)
        refine wl_op (k := 4) (k' := 5) rfl rfl rfl (wo_run rfl rfl (run_indexM (C := cdInt) ((((ga d.crs i).b) - 1).toNat) rfl rfl rfl sl36 (by first | rfl | omega) hr1 (by first | omega | (simp only [List.length_set, List.length_append, List.length_replicate, List.length_singleton, List.length_cons, List.length_nil]; omega))) ?_)
        refine wl_op (k := 5) (k' := 6) rfl rfl rfl (wo_run rfl rfl (run_load1 rfl rfl Try.underlying3 rfl (hr1.cell S23.m (i := (((ga d.crs i).b) - 1).toNat) (by first | omega | (simp only [List.length_set, List.length_append, List.length_replicate, List.length_singleton, List.length_cons, List.length_nil]; omega)) 0 rfl rfl)) ?_)
        refine wl_op (k := 6) (k' := 7) rfl rfl rfl (wo_run rfl rfl (run_assign rfl rfl) ?_)
        refine wl_end rfl ?_
        refine nm_sub [(1, _), (3, _), (4, _), (5, _), (6, _), (8, _), (9, _), (10, _), (11, _)] ⟨rfl, rfl, rfl, rfl, rfl, rfl, rfl, rfl, rfl, trivial⟩ ?_
        refine nm_thn ?_
        refine ws_seqN TableOf_n38 TableOf_n39 rfl rfl rfl ?_
        refine ws_eq 11 (.int .i64 (kO d (ga d.crs i).b : Int)) rfl (int_eq kb3) ?_
        refine ws_region rfl ?_
        refine wl_op (k := 0) (k' := 1) rfl rfl rfl (wo_run rfl rfl (run_move rfl rfl) ?_)
        refine wl_op (k := 1) (k' := 2) rfl rfl rfl (wo_run rfl rfl (run_move rfl rfl) ?_)
        refine wl_op (k := 2) (k' := 3) rfl rfl rfl (wo_run rfl rfl (run_move rfl rfl) ?_)
        refine wl_op (k := 3) (k' := 4) rfl rfl rfl (wo_run rfl rfl (run_move rfl rfl) ?_)
        refine wl_op (k := 4) (k' := 5) rfl rfl rfl (wo_run rfl rfl (run_indexR (C := (cdV 22)) (i := 0) (kO d (ga d.crs i).a) rfl rfl rfl sl43 S23 rfl (by first | rfl | omega) (by first | omega | (simp only [List.length_set, List.length_append, List.length_replicate, List.length_singleton, List.length_cons, List.length_nil]; omega))) ?_)
        obtain ⟨hn1, hr2⟩ := hd1.2 (kO d (ga d.crs i).a) (by first | omega | (simp only [List.length_set, List.length_append, List.length_replicate, List.length_singleton, List.length_cons, List.length_nil]; omega))
        refine wl_op (k := 5) (k' := 6) rfl rfl rfl (wo_run rfl rfl (run_load1 rfl rfl Try.underlying22 rfl (S23.rowc (i := 0) (e := kO d (ga d.crs i).a) (j := 0) rfl (by first | omega | (simp only [List.length_set, List.length_append, List.length_replicate, List.length_singleton, List.length_cons, List.length_nil]; omega)) rfl (congrArg (fun n => some (Value.slice _ n _)) hn1))) ?_)
        refine wl_op (k := 6) (k' := 7) rfl rfl rfl (wo_ct rfl rfl rfl rfl rfl rfl rfl cf62 S23 (Put_t (ga (List.replicate (mny d) []) (kO d (ga d.crs i).a)) 0 1 hr2 ((by first | (have := rok_len (rok_rep (mny d)) (k := (kO d (ga d.crs i).a)) (by rw [List.length_replicate]; omega); omega) | (have := rok_len (rok1 d i) (k := (kO d (ga d.crs i).a)) (by rw [row1_len]; omega); omega) | (have := rok_len (rok2 d i) (k := (kO d (ga d.crs i).a)) (by rw [row2_len]; omega); omega))) S23.lend) ?_)
        intro vw23 w23 M17 hle17 S24 hRw23; clear S23
        replace hdcrs := hdcrs.mono (Hp.un_mono hle17 S24.mx)
        replace hr1 := hr1.mono hle17
        replace ht2 := ht2.mono hle17
        replace ht3 := ht3.mono hle17
        replace hd1 := hd1.mono hle17
        replace hr2 := hr2.mono hle17
        obtain ⟨A2, c2, rfl, hr3⟩ := hRw23
        refine wl_op (k := 7) (k' := 8) rfl rfl rfl (wo_run rfl rfl (run_indexR (C := (cdV 22)) (i := 0) (kO d (ga d.crs i).a) rfl rfl rfl sl43 S24 rfl (by first | rfl | omega) (by first | omega | (simp only [List.length_set, List.length_append, List.length_replicate, List.length_singleton, List.length_cons, List.length_nil]; omega))) ?_)
        refine wl_op (k := 8) (k' := 9) rfl rfl rfl (wo_storeR (C := (cdV 22)) (i := 0) (e := kO d (ga d.crs i).a) (j := 0) (us := [_]) (H' := [_, _, _, _]) (⟨A2, (put (ga (List.replicate (mny d) []) (kO d (ga d.crs i).a)) 0 1).length, c2⟩ : SlV) rfl rfl S24 rfl (by first | omega | (simp only [List.length_set, List.length_append, List.length_replicate, List.length_singleton, List.length_cons, List.length_nil]; omega)) rfl rfl rfl sz22 rfl rfl rfl rfl ?_)
        intro w24 S25; clear S24
        have hd2 := hd1.set_ hr3 (kO d (ga d.crs i).a) (by first | omega | (simp only [List.length_set, List.length_append, List.length_replicate, List.length_singleton, List.length_cons, List.length_nil]; omega))
        refine wl_end rfl ?_
        refine nm_sub [(1, _), (3, _), (4, _), (5, _), (6, _), (8, _), (9, _), (11, _)] ⟨rfl, rfl, rfl, rfl, rfl, rfl, rfl, rfl, trivial⟩ ?_
        refine nm_thn ?_
        refine ws_seqN TableOf_n40 TableOf_n41 rfl rfl rfl ?_
        replace hd2 : Rd2 cdTm M17 ((List.replicate (mny d) (cdV 22).z).set (kO d (ga d.crs i).a) (⟨A2, (put (ga (List.replicate (mny d) []) (kO d (ga d.crs i).a)) 0 1).length, c2⟩ : SlV)) (row1 d i) := by (have e9 : row1 d i = (List.replicate (mny d) []).set (kO d (ga d.crs i).a) (put (ga (List.replicate (mny d) []) (kO d (ga d.crs i).a)) 0 1) := by (unfold row1 putA; rw [hto])); rw [e9]; exact hd2
        have hrlhd2 := hd2.1
        simp only [row1_len, row2_len, rowL_len] at hrlhd2
        refine ws_region rfl ?_
        refine wl_op (k := 0) (k' := 1) rfl rfl rfl (wo_run rfl rfl (run_move rfl rfl) ?_)
        refine wl_op (k := 1) (k' := 2) rfl rfl rfl (wo_run rfl rfl (run_move rfl rfl) ?_)
        refine wl_op (k := 2) (k' := 3) rfl rfl rfl (wo_run rfl rfl (run_move rfl rfl) ?_)
        refine wl_op (k := 3) (k' := 4) rfl rfl rfl (wo_run rfl rfl (run_move rfl rfl) ?_)
        refine wl_op (k := 4) (k' := 5) rfl rfl rfl (wo_run rfl rfl (run_indexR (C := (cdV 22)) (i := 0) (kO d (ga d.crs i).c) rfl rfl rfl sl43 S25 rfl (by first | rfl | omega) (by first | omega | (simp only [List.length_set, List.length_append, List.length_replicate, List.length_singleton, List.length_cons, List.length_nil]; omega))) ?_)
        obtain ⟨hn2, hr4⟩ := hd2.2 (kO d (ga d.crs i).c) (by first | omega | (simp only [List.length_set, List.length_append, List.length_replicate, List.length_singleton, List.length_cons, List.length_nil]; omega))
        refine wl_op (k := 5) (k' := 6) rfl rfl rfl (wo_run rfl rfl (run_load1 rfl rfl Try.underlying22 rfl (S25.rowc (i := 0) (e := kO d (ga d.crs i).c) (j := 0) rfl (by first | omega | (simp only [List.length_set, List.length_append, List.length_replicate, List.length_singleton, List.length_cons, List.length_nil]; omega)) rfl (congrArg (fun n => some (Value.slice _ n _)) hn2))) ?_)
        refine wl_op (k := 6) (k' := 7) rfl rfl rfl (wo_ct rfl rfl rfl rfl rfl rfl rfl cf62 S25 (Put_t (ga (row1 d i) (kO d (ga d.crs i).c)) 1 (-1) hr4 ((by first | (have := rok_len (rok_rep (mny d)) (k := (kO d (ga d.crs i).c)) (by rw [List.length_replicate]; omega); omega) | (have := rok_len (rok1 d i) (k := (kO d (ga d.crs i).c)) (by rw [row1_len]; omega); omega) | (have := rok_len (rok2 d i) (k := (kO d (ga d.crs i).c)) (by rw [row2_len]; omega); omega))) S25.lend) ?_)
        intro vw25 w25 M18 hle18 S26 hRw25; clear S25
        replace hdcrs := hdcrs.mono (Hp.un_mono hle18 S26.mx)
        replace hr1 := hr1.mono hle18
        replace ht2 := ht2.mono hle18
        replace ht3 := ht3.mono hle18
        replace hd1 := hd1.mono hle18
        replace hr2 := hr2.mono hle18
        replace hr3 := hr3.mono hle18
        replace hd2 := hd2.mono hle18
        replace hr4 := hr4.mono hle18
        obtain ⟨A3, c3, rfl, hr5⟩ := hRw25
        refine wl_op (k := 7) (k' := 8) rfl rfl rfl (wo_run rfl rfl (run_indexR (C := (cdV 22)) (i := 0) (kO d (ga d.crs i).c) rfl rfl rfl sl43 S26 rfl (by first | rfl | omega) (by first | omega | (simp only [List.length_set, List.length_append, List.length_replicate, List.length_singleton, List.length_cons, List.length_nil]; omega))) ?_)
        refine wl_op (k := 8) (k' := 9) rfl rfl rfl (wo_storeR (C := (cdV 22)) (i := 0) (e := kO d (ga d.crs i).c) (j := 0) (us := [_]) (H' := [_, _, _, _]) (⟨A3, (put (ga (row1 d i) (kO d (ga d.crs i).c)) 1 (-1)).length, c3⟩ : SlV) rfl rfl S26 rfl (by first | omega | (simp only [List.length_set, List.length_append, List.length_replicate, List.length_singleton, List.length_cons, List.length_nil]; omega)) rfl rfl rfl sz22 rfl rfl rfl rfl ?_)
        intro w26 S27; clear S26
        have hd3 := hd2.set_ hr5 (kO d (ga d.crs i).c) (by first | omega | (simp only [List.length_set, List.length_append, List.length_replicate, List.length_singleton, List.length_cons, List.length_nil]; omega))
        refine wl_end rfl ?_
        refine nm_sub [(1, _), (3, _), (4, _), (5, _), (6, _), (8, _), (11, _)] ⟨rfl, rfl, rfl, rfl, rfl, rfl, rfl, trivial⟩ ?_
        refine nm_thn ?_
        refine ws_seqN TableOf_n42 TableOf_n43 rfl rfl rfl ?_
        replace hd3 : Rd2 cdTm M18 (((List.replicate (mny d) (cdV 22).z).set (kO d (ga d.crs i).a) (⟨A2, (put (ga (List.replicate (mny d) []) (kO d (ga d.crs i).a)) 0 1).length, c2⟩ : SlV)).set (kO d (ga d.crs i).c) (⟨A3, (put (ga (row1 d i) (kO d (ga d.crs i).c)) 1 (-1)).length, c3⟩ : SlV)) (row2 d i) := by (have e9 : row2 d i = (row1 d i).set (kO d (ga d.crs i).c) (put (ga (row1 d i) (kO d (ga d.crs i).c)) 1 (-1)) := by (unfold row2 putA; rw [hin])); rw [e9]; exact hd3
        have hrlhd3 := hd3.1
        simp only [row1_len, row2_len, rowL_len] at hrlhd3
        refine ws_region rfl ?_
        refine wl_op (k := 0) (k' := 1) rfl rfl rfl (wo_run rfl rfl (run_move rfl rfl) ?_)
        refine wl_op (k := 1) (k' := 2) rfl rfl rfl (wo_run rfl rfl (run_move rfl rfl) ?_)
        refine wl_op (k := 2) (k' := 3) rfl rfl rfl (wo_run rfl rfl (run_move rfl rfl) ?_)
        refine wl_op (k := 3) (k' := 4) rfl rfl rfl (wo_run rfl rfl (run_move rfl rfl) ?_)
        refine wl_op (k := 4) (k' := 5) rfl rfl rfl (wo_run rfl rfl (run_indexR (C := (cdV 22)) (i := 0) (kO d (ga d.crs i).b) rfl rfl rfl sl43 S27 rfl (by first | rfl | omega) (by first | omega | (simp only [List.length_set, List.length_append, List.length_replicate, List.length_singleton, List.length_cons, List.length_nil]; omega))) ?_)
        obtain ⟨hn3, hr6⟩ := hd3.2 (kO d (ga d.crs i).b) (by first | omega | (simp only [List.length_set, List.length_append, List.length_replicate, List.length_singleton, List.length_cons, List.length_nil]; omega))
        refine wl_op (k := 5) (k' := 6) rfl rfl rfl (wo_run rfl rfl (run_load1 rfl rfl Try.underlying22 rfl (S27.rowc (i := 0) (e := kO d (ga d.crs i).b) (j := 0) rfl (by first | omega | (simp only [List.length_set, List.length_append, List.length_replicate, List.length_singleton, List.length_cons, List.length_nil]; omega)) rfl (congrArg (fun n => some (Value.slice _ n _)) hn3))) ?_)
        refine wl_op (k := 6) (k' := 7) rfl rfl rfl (wo_ct rfl rfl rfl rfl rfl rfl rfl cf62 S27 (Put_t (ga (row2 d i) (kO d (ga d.crs i).b)) 1 1 hr6 ((by first | (have := rok_len (rok_rep (mny d)) (k := (kO d (ga d.crs i).b)) (by rw [List.length_replicate]; omega); omega) | (have := rok_len (rok1 d i) (k := (kO d (ga d.crs i).b)) (by rw [row1_len]; omega); omega) | (have := rok_len (rok2 d i) (k := (kO d (ga d.crs i).b)) (by rw [row2_len]; omega); omega))) S27.lend) ?_)
        intro vw27 w27 M19 hle19 S28 hRw27; clear S27
        replace hdcrs := hdcrs.mono (Hp.un_mono hle19 S28.mx)
        replace hr1 := hr1.mono hle19
        replace ht2 := ht2.mono hle19
        replace ht3 := ht3.mono hle19
        replace hd1 := hd1.mono hle19
        replace hr2 := hr2.mono hle19
        replace hr3 := hr3.mono hle19
        replace hd2 := hd2.mono hle19
        replace hr4 := hr4.mono hle19
        replace hr5 := hr5.mono hle19
        replace hd3 := hd3.mono hle19
        replace hr6 := hr6.mono hle19
        obtain ⟨A4, c4, rfl, hr7⟩ := hRw27
        refine wl_op (k := 7) (k' := 8) rfl rfl rfl (wo_ct rfl rfl rfl rfl rfl rfl rfl cf62 S28 (Put_t (put (ga (row2 d i) (kO d (ga d.crs i).b)) 1 1) 0 (-1) hr7 ((by have h9 := rok_put (rok2 d i) (kO d (ga d.crs i).b) (e := 1) (c := 1) (by omega) (by omega) (kO d (ga d.crs i).b) (by rw [putA_len, row2_len]; omega); unfold putA at h9; rw [ga_set _ _ _ _ (by rw [row2_len]; omega), if_pos rfl] at h9; have := can_len h9.1 h9.2; omega)) S28.lend) ?_)
        intro vw28 w28 M20 hle20 S29 hRw28; clear S28
        replace hdcrs := hdcrs.mono (Hp.un_mono hle20 S29.mx)
        replace hr1 := hr1.mono hle20
        replace ht2 := ht2.mono hle20
        replace ht3 := ht3.mono hle20
        replace hd1 := hd1.mono hle20
        replace hr2 := hr2.mono hle20
        replace hr3 := hr3.mono hle20
        replace hd2 := hd2.mono hle20
        replace hr4 := hr4.mono hle20
        replace hr5 := hr5.mono hle20
        replace hd3 := hd3.mono hle20
        replace hr6 := hr6.mono hle20
        replace hr7 := hr7.mono hle20
        obtain ⟨A5, c5, rfl, hr8⟩ := hRw28
        refine wl_op (k := 8) (k' := 9) rfl rfl rfl (wo_run rfl rfl (run_indexR (C := (cdV 22)) (i := 0) (kO d (ga d.crs i).b) rfl rfl rfl sl43 S29 rfl (by first | rfl | omega) (by first | omega | (simp only [List.length_set, List.length_append, List.length_replicate, List.length_singleton, List.length_cons, List.length_nil]; omega))) ?_)
        refine wl_op (k := 9) (k' := 10) rfl rfl rfl (wo_storeR (C := (cdV 22)) (i := 0) (e := kO d (ga d.crs i).b) (j := 0) (us := [_]) (H' := [_, _, _, _]) (⟨A5, (put (put (ga (row2 d i) (kO d (ga d.crs i).b)) 1 1) 0 (-1)).length, c5⟩ : SlV) rfl rfl S29 rfl (by first | omega | (simp only [List.length_set, List.length_append, List.length_replicate, List.length_singleton, List.length_cons, List.length_nil]; omega)) rfl rfl rfl sz22 rfl rfl rfl rfl ?_)
        intro w29 S30; clear S29
        have hd4 := hd3.set_ hr8 (kO d (ga d.crs i).b) (by first | omega | (simp only [List.length_set, List.length_append, List.length_replicate, List.length_singleton, List.length_cons, List.length_nil]; omega))
        refine wl_end rfl ?_
        refine nm_sub [(1, _), (3, _), (4, _), (5, _), (6, _), (8, _)] ⟨rfl, rfl, rfl, rfl, rfl, rfl, trivial⟩ ?_
        refine nm_thn ?_
        replace hd4 : Rd2 cdTm M20 ((((List.replicate (mny d) (cdV 22).z).set (kO d (ga d.crs i).a) (⟨A2, (put (ga (List.replicate (mny d) []) (kO d (ga d.crs i).a)) 0 1).length, c2⟩ : SlV)).set (kO d (ga d.crs i).c) (⟨A3, (put (ga (row1 d i) (kO d (ga d.crs i).c)) 1 (-1)).length, c3⟩ : SlV)).set (kO d (ga d.crs i).b) (⟨A5, (put (put (ga (row2 d i) (kO d (ga d.crs i).b)) 1 1) 0 (-1)).length, c5⟩ : SlV)) (rowL d i) := by (have e9 : rowL d i = (row2 d i).set (kO d (ga d.crs i).b) (put (put (ga (row2 d i) (kO d (ga d.crs i).b)) 1 1) 0 (-1)) := by (unfold rowL putA; rw [ga_set _ _ _ _ (by rw [row2_len]; omega), if_pos rfl, List.set_set])); rw [e9]; exact hd4
        have hrlhd4 := hd4.1
        simp only [row1_len, row2_len, rowL_len] at hrlhd4
        refine ws_region rfl ?_
        refine wl_op (k := 0) (k' := 1) rfl rfl rfl (wo_run rfl rfl (run_move rfl rfl) ?_)
        refine wl_op (k := 1) (k' := 2) rfl rfl rfl (wo_run rfl rfl (run_move rfl rfl) ?_)
        obtain ⟨M21, hle21, S31, ⟨A6, c6, e1, hr9⟩⟩ := S30.pubrow (i := 0) (H' := [_, _, _, _]) rfl rfl (by show _ * 24 ≤ _; first | omega | (simp only [List.length_set, List.length_append, List.length_replicate, List.length_singleton, List.length_cons, List.length_nil]; omega))
        clear S30; subst e1
        replace hdcrs := hdcrs.mono (Hp.un_mono hle21 S31.mx)
        replace hr1 := hr1.mono hle21
        replace ht2 := ht2.mono hle21
        replace ht3 := ht3.mono hle21
        replace hd1 := hd1.mono hle21
        replace hr2 := hr2.mono hle21
        replace hr3 := hr3.mono hle21
        replace hd2 := hd2.mono hle21
        replace hr4 := hr4.mono hle21
        replace hr5 := hr5.mono hle21
        replace hd3 := hd3.mono hle21
        replace hr6 := hr6.mono hle21
        replace hr7 := hr7.mono hle21
        replace hr8 := hr8.mono hle21
        replace hd4 := hd4.mono hle21
        refine wl_op (k := 2) (k' := 3) rfl rfl rfl (wo_buildSlice1 (C := (cdV 43)) (l := [_]) rfl rfl rfl rfl sl37 rfl rfl rfl rfl S31 ?_)
        intro gb3 w30 S32; clear S31
        refine wl_op (k := 3) (k' := 4) rfl rfl rfl (wo_append1 (C := (cdV 43)) (i := 3) (q := 0) (⟨A6, ((((List.replicate (mny d) (cdV 22).z).set (kO d (ga d.crs i).a) (⟨A2, (put (ga (List.replicate (mny d) []) (kO d (ga d.crs i).a)) 0 1).length, c2⟩ : SlV)).set (kO d (ga d.crs i).c) (⟨A3, (put (ga (row1 d i) (kO d (ga d.crs i).c)) 1 (-1)).length, c3⟩ : SlV)).set (kO d (ga d.crs i).b) (⟨A5, (put (put (ga (row2 d i) (kO d (ga d.crs i).b)) 1 1) 0 (-1)).length, c5⟩ : SlV)).length, c6⟩ : SlV) rfl rfl rfl rfl rfl rfl rfl rfl sl37 S32 rfl rfl rfl (by show (_ + 1) * 24 ≤ _; first | omega | (simp only [List.length_set, List.length_append, List.length_replicate, List.length_singleton, List.length_cons, List.length_nil]; omega)) ?_)
        intro vrt1 w31 S33; clear S32
        have S34 := S33.pick [1, 2, 3, 4] [_, _, _, _] (by decide) ⟨rfl, rfl, rfl, rfl, trivial⟩; clear S33
        have hd5 := ht2.snoc (c := c6) hr9
        have hd6 := ht3.snoc hd4
        refine wl_op (k := 4) (k' := 5) rfl rfl rfl (wo_run rfl rfl (run_assign rfl rfl) ?_)
        refine wl_end rfl ?_
        refine nm_blk ?_
        refine nm_sub [(1, _), (3, _), (4, _), (5, _), (6, _)] ⟨rfl, rfl, rfl, rfl, rfl, trivial⟩ ?_
        refine nm_thn ?_
        refine ws_region rfl ?_
        refine wl_op (k := 0) (k' := 1) rfl rfl rfl (wo_run rfl rfl (run_move rfl rfl) ?_)
        refine wl_op (k := 1) (k' := 2) rfl rfl rfl (wo_run rfl rfl (run_add rfl rfl rfl (by first | omega | (simp only [List.length_set, List.length_append, List.length_replicate, List.length_singleton, List.length_cons, List.length_nil]; omega))) ?_)
        refine wl_op (k := 2) (k' := 3) rfl rfl rfl (wo_run rfl rfl (run_assign rfl rfl) ?_)
        refine wl_end rfl ?_
        refine nm_lp ?_
        intro ax_ hax_
        refine ⟨_, ?hq2m, ⟨i + 1, _, (tss ++ [(((List.replicate (mny d) (cdV 22).z).set (kO d (ga d.crs i).a) (⟨A2, (put (ga (List.replicate (mny d) []) (kO d (ga d.crs i).a)) 0 1).length, c2⟩ : SlV)).set (kO d (ga d.crs i).c) (⟨A3, (put (ga (row1 d i) (kO d (ga d.crs i).c)) 1 (-1)).length, c3⟩ : SlV)).set (kO d (ga d.crs i).b) (⟨A5, (put (put (ga (row2 d i) (kO d (ga d.crs i).b)) 1 1) 0 (-1)).length, c5⟩ : SlV)]), (tm ++ [(rowL d i)]), _, _, (((((hle2.trans hle17).trans hle18).trans hle19).trans hle20).trans hle21), rfl, hax_.sub ⟨rfl, rfl, rfl, rfl, rfl, trivial⟩, S34.pick [2, 3] [_, _] (by decide) ⟨rfl, rfl, trivial⟩, ?hq2f0, ?hq2f1, ?hq2f2, ?hq2f3⟩⟩
        case hq2f0 => omega
        case hq2f1 => (rw [take_ga _ i (by rw [tblA_len]; omega), ← htm, tblA_ga d (by omega)])
        case hq2f2 => exact hd5
        case hq2f3 => exact hd6
        case hq2m => omega
      · simp only [Bool.and_eq_true, Bool.or_eq_true, Bool.and_eq_false_iff, Bool.or_eq_false_iff, decide_eq_true_eq, decide_eq_false_iff_not, Bool.not_eq_true', Bool.not_eq_false'] at hb44
        have hin : inA (ga d.crs i) = (ga d.crs i).a := by unfold inA; simp [*]
        have hto : toA (ga d.crs i) = (ga d.crs i).c := by unfold toA; simp [*]
        refine ws_skip rfl ?_
        refine nm_sub [(1, _), (3, _), (4, _), (5, _), (6, _), (7, _), (8, _), (9, _), (10, _)] ⟨rfl, rfl, rfl, rfl, rfl, rfl, rfl, rfl, rfl, trivial⟩ ?_
        refine nm_thn ?_
        refine ws_seqN TableOf_n36 TableOf_n37 rfl rfl rfl ?_
        refine ws_region rfl ?_
        refine wl_op (k := 0) (k' := 1) rfl rfl rfl (wo_run rfl rfl (run_move rfl rfl) ?_)
        refine wl_op (k := 1) (k' := 2) rfl rfl rfl (wo_run rfl rfl (run_fieldAddr rfl rfl Try.underlying111 rfl (ce3) (nf3)) ?_)
        refine wl_op (k := 2) (k' := 3) rfl rfl rfl (wo_run rfl rfl (run_load1 rfl rfl Try.underlying3 rfl (S23.boxc (i := 1) rfl rfl)) ?_)
        refine wl_op (k := 3) (k' := 4) rfl rfl rfl (wo_run rfl rfl (run_sub rfl rfl rfl (by first | omega | (simp only [List.length_set, List.length_append, List.length_replicate, List.length_singleton, List.length_cons, List.length_nil]; omega))) ?_)
        refine wl_op (k := 4) (k' := 5) rfl rfl rfl (wo_run rfl rfl (run_indexM (C := cdInt) ((((ga d.crs i).b) - 1).toNat) rfl rfl rfl sl36 (by first | rfl | omega) hr1 (by first | omega | (simp only [List.length_set, List.length_append, List.length_replicate, List.length_singleton, List.length_cons, List.length_nil]; omega))) ?_)
        refine wl_op (k := 5) (k' := 6) rfl rfl rfl (wo_run rfl rfl (run_load1 rfl rfl Try.underlying3 rfl (hr1.cell S23.m (i := (((ga d.crs i).b) - 1).toNat) (by first | omega | (simp only [List.length_set, List.length_append, List.length_replicate, List.length_singleton, List.length_cons, List.length_nil]; omega)) 0 rfl rfl)) ?_)
        refine wl_op (k := 6) (k' := 7) rfl rfl rfl (wo_run rfl rfl (run_assign rfl rfl) ?_)
        refine wl_end rfl ?_
        refine nm_sub [(1, _), (3, _), (4, _), (5, _), (6, _), (8, _), (9, _), (10, _), (11, _)] ⟨rfl, rfl, rfl, rfl, rfl, rfl, rfl, rfl, rfl, trivial⟩ ?_
        refine nm_thn ?_
        refine ws_seqN TableOf_n38 TableOf_n39 rfl rfl rfl ?_
        refine ws_eq 11 (.int .i64 (kO d (ga d.crs i).b : Int)) rfl (int_eq kb3) ?_
        refine ws_region rfl ?_
        refine wl_op (k := 0) (k' := 1) rfl rfl rfl (wo_run rfl rfl (run_move rfl rfl) ?_)
        refine wl_op (k := 1) (k' := 2) rfl rfl rfl (wo_run rfl rfl (run_move rfl rfl) ?_)
        refine wl_op (k := 2) (k' := 3) rfl rfl rfl (wo_run rfl rfl (run_move rfl rfl) ?_)
        refine wl_op (k := 3) (k' := 4) rfl rfl rfl (wo_run rfl rfl (run_move rfl rfl) ?_)
        refine wl_op (k := 4) (k' := 5) rfl rfl rfl (wo_run rfl rfl (run_indexR (C := (cdV 22)) (i := 0) (kO d (ga d.crs i).c) rfl rfl rfl sl43 S23 rfl (by first | rfl | omega) (by first | omega | (simp only [List.length_set, List.length_append, List.length_replicate, List.length_singleton, List.length_cons, List.length_nil]; omega))) ?_)
        obtain ⟨hn4, hr10⟩ := hd1.2 (kO d (ga d.crs i).c) (by first | omega | (simp only [List.length_set, List.length_append, List.length_replicate, List.length_singleton, List.length_cons, List.length_nil]; omega))
        refine wl_op (k := 5) (k' := 6) rfl rfl rfl (wo_run rfl rfl (run_load1 rfl rfl Try.underlying22 rfl (S23.rowc (i := 0) (e := kO d (ga d.crs i).c) (j := 0) rfl (by first | omega | (simp only [List.length_set, List.length_append, List.length_replicate, List.length_singleton, List.length_cons, List.length_nil]; omega)) rfl (congrArg (fun n => some (Value.slice _ n _)) hn4))) ?_)
        refine wl_op (k := 6) (k' := 7) rfl rfl rfl (wo_ct rfl rfl rfl rfl rfl rfl rfl cf62 S23 (Put_t (ga (List.replicate (mny d) []) (kO d (ga d.crs i).c)) 0 1 hr10 ((by first | (have := rok_len (rok_rep (mny d)) (k := (kO d (ga d.crs i).c)) (by rw [List.length_replicate]; omega); omega) | (have := rok_len (rok1 d i) (k := (kO d (ga d.crs i).c)) (by rw [row1_len]; omega); omega) | (have := rok_len (rok2 d i) (k := (kO d (ga d.crs i).c)) (by rw [row2_len]; omega); omega))) S23.lend) ?_)
        intro vw32 w32 M22 hle22 S35 hRw32; clear S23
        replace hdcrs := hdcrs.mono (Hp.un_mono hle22 S35.mx)
        replace hr1 := hr1.mono hle22
        replace ht2 := ht2.mono hle22
        replace ht3 := ht3.mono hle22
        replace hd1 := hd1.mono hle22
        replace hr10 := hr10.mono hle22
        obtain ⟨A7, c7, rfl, hr11⟩ := hRw32
        refine wl_op (k := 7) (k' := 8) rfl rfl rfl (wo_run rfl rfl (run_indexR (C := (cdV 22)) (i := 0) (kO d (ga d.crs i).c) rfl rfl rfl sl43 S35 rfl (by first | rfl | omega) (by first | omega | (simp only [List.length_set, List.length_append, List.length_replicate, List.length_singleton, List.length_cons, List.length_nil]; omega))) ?_)
        refine wl_op (k := 8) (k' := 9) rfl rfl rfl (wo_storeR (C := (cdV 22)) (i := 0) (e := kO d (ga d.crs i).c) (j := 0) (us := [_]) (H' := [_, _, _, _]) (⟨A7, (put (ga (List.replicate (mny d) []) (kO d (ga d.crs i).c)) 0 1).length, c7⟩ : SlV) rfl rfl S35 rfl (by first | omega | (simp only [List.length_set, List.length_append, List.length_replicate, List.length_singleton, List.length_cons, List.length_nil]; omega)) rfl rfl rfl sz22 rfl rfl rfl rfl ?_)
        intro w33 S36; clear S35
        have hd7 := hd1.set_ hr11 (kO d (ga d.crs i).c) (by first | omega | (simp only [List.length_set, List.length_append, List.length_replicate, List.length_singleton, List.length_cons, List.length_nil]; omega))
        refine wl_end rfl ?_
        refine nm_sub [(1, _), (3, _), (4, _), (5, _), (6, _), (8, _), (9, _), (11, _)] ⟨rfl, rfl, rfl, rfl, rfl, rfl, rfl, rfl, trivial⟩ ?_
        refine nm_thn ?_
        refine ws_seqN TableOf_n40 TableOf_n41 rfl rfl rfl ?_
        replace hd7 : Rd2 cdTm M22 ((List.replicate (mny d) (cdV 22).z).set (kO d (ga d.crs i).c) (⟨A7, (put (ga (List.replicate (mny d) []) (kO d (ga d.crs i).c)) 0 1).length, c7⟩ : SlV)) (row1 d i) := by (have e9 : row1 d i = (List.replicate (mny d) []).set (kO d (ga d.crs i).c) (put (ga (List.replicate (mny d) []) (kO d (ga d.crs i).c)) 0 1) := by (unfold row1 putA; rw [hto])); rw [e9]; exact hd7
        have hrlhd7 := hd7.1
        simp only [row1_len, row2_len, rowL_len] at hrlhd7
        refine ws_region rfl ?_
        refine wl_op (k := 0) (k' := 1) rfl rfl rfl (wo_run rfl rfl (run_move rfl rfl) ?_)
        refine wl_op (k := 1) (k' := 2) rfl rfl rfl (wo_run rfl rfl (run_move rfl rfl) ?_)
        refine wl_op (k := 2) (k' := 3) rfl rfl rfl (wo_run rfl rfl (run_move rfl rfl) ?_)
        refine wl_op (k := 3) (k' := 4) rfl rfl rfl (wo_run rfl rfl (run_move rfl rfl) ?_)
        refine wl_op (k := 4) (k' := 5) rfl rfl rfl (wo_run rfl rfl (run_indexR (C := (cdV 22)) (i := 0) (kO d (ga d.crs i).a) rfl rfl rfl sl43 S36 rfl (by first | rfl | omega) (by first | omega | (simp only [List.length_set, List.length_append, List.length_replicate, List.length_singleton, List.length_cons, List.length_nil]; omega))) ?_)
        obtain ⟨hn5, hr12⟩ := hd7.2 (kO d (ga d.crs i).a) (by first | omega | (simp only [List.length_set, List.length_append, List.length_replicate, List.length_singleton, List.length_cons, List.length_nil]; omega))
        refine wl_op (k := 5) (k' := 6) rfl rfl rfl (wo_run rfl rfl (run_load1 rfl rfl Try.underlying22 rfl (S36.rowc (i := 0) (e := kO d (ga d.crs i).a) (j := 0) rfl (by first | omega | (simp only [List.length_set, List.length_append, List.length_replicate, List.length_singleton, List.length_cons, List.length_nil]; omega)) rfl (congrArg (fun n => some (Value.slice _ n _)) hn5))) ?_)
        refine wl_op (k := 6) (k' := 7) rfl rfl rfl (wo_ct rfl rfl rfl rfl rfl rfl rfl cf62 S36 (Put_t (ga (row1 d i) (kO d (ga d.crs i).a)) 1 (-1) hr12 ((by first | (have := rok_len (rok_rep (mny d)) (k := (kO d (ga d.crs i).a)) (by rw [List.length_replicate]; omega); omega) | (have := rok_len (rok1 d i) (k := (kO d (ga d.crs i).a)) (by rw [row1_len]; omega); omega) | (have := rok_len (rok2 d i) (k := (kO d (ga d.crs i).a)) (by rw [row2_len]; omega); omega))) S36.lend) ?_)
        intro vw34 w34 M23 hle23 S37 hRw34; clear S36
        replace hdcrs := hdcrs.mono (Hp.un_mono hle23 S37.mx)
        replace hr1 := hr1.mono hle23
        replace ht2 := ht2.mono hle23
        replace ht3 := ht3.mono hle23
        replace hd1 := hd1.mono hle23
        replace hr10 := hr10.mono hle23
        replace hr11 := hr11.mono hle23
        replace hd7 := hd7.mono hle23
        replace hr12 := hr12.mono hle23
        obtain ⟨A8, c8, rfl, hr13⟩ := hRw34
        refine wl_op (k := 7) (k' := 8) rfl rfl rfl (wo_run rfl rfl (run_indexR (C := (cdV 22)) (i := 0) (kO d (ga d.crs i).a) rfl rfl rfl sl43 S37 rfl (by first | rfl | omega) (by first | omega | (simp only [List.length_set, List.length_append, List.length_replicate, List.length_singleton, List.length_cons, List.length_nil]; omega))) ?_)
        refine wl_op (k := 8) (k' := 9) rfl rfl rfl (wo_storeR (C := (cdV 22)) (i := 0) (e := kO d (ga d.crs i).a) (j := 0) (us := [_]) (H' := [_, _, _, _]) (⟨A8, (put (ga (row1 d i) (kO d (ga d.crs i).a)) 1 (-1)).length, c8⟩ : SlV) rfl rfl S37 rfl (by first | omega | (simp only [List.length_set, List.length_append, List.length_replicate, List.length_singleton, List.length_cons, List.length_nil]; omega)) rfl rfl rfl sz22 rfl rfl rfl rfl ?_)
        intro w35 S38; clear S37
        have hd8 := hd7.set_ hr13 (kO d (ga d.crs i).a) (by first | omega | (simp only [List.length_set, List.length_append, List.length_replicate, List.length_singleton, List.length_cons, List.length_nil]; omega))
        refine wl_end rfl ?_
        refine nm_sub [(1, _), (3, _), (4, _), (5, _), (6, _), (8, _), (11, _)] ⟨rfl, rfl, rfl, rfl, rfl, rfl, rfl, trivial⟩ ?_
        refine nm_thn ?_
        refine ws_seqN TableOf_n42 TableOf_n43 rfl rfl rfl ?_
        replace hd8 : Rd2 cdTm M23 (((List.replicate (mny d) (cdV 22).z).set (kO d (ga d.crs i).c) (⟨A7, (put (ga (List.replicate (mny d) []) (kO d (ga d.crs i).c)) 0 1).length, c7⟩ : SlV)).set (kO d (ga d.crs i).a) (⟨A8, (put (ga (row1 d i) (kO d (ga d.crs i).a)) 1 (-1)).length, c8⟩ : SlV)) (row2 d i) := by (have e9 : row2 d i = (row1 d i).set (kO d (ga d.crs i).a) (put (ga (row1 d i) (kO d (ga d.crs i).a)) 1 (-1)) := by (unfold row2 putA; rw [hin])); rw [e9]; exact hd8
        have hrlhd8 := hd8.1
        simp only [row1_len, row2_len, rowL_len] at hrlhd8
        refine ws_region rfl ?_
        refine wl_op (k := 0) (k' := 1) rfl rfl rfl (wo_run rfl rfl (run_move rfl rfl) ?_)
        refine wl_op (k := 1) (k' := 2) rfl rfl rfl (wo_run rfl rfl (run_move rfl rfl) ?_)
        refine wl_op (k := 2) (k' := 3) rfl rfl rfl (wo_run rfl rfl (run_move rfl rfl) ?_)
        refine wl_op (k := 3) (k' := 4) rfl rfl rfl (wo_run rfl rfl (run_move rfl rfl) ?_)
        refine wl_op (k := 4) (k' := 5) rfl rfl rfl (wo_run rfl rfl (run_indexR (C := (cdV 22)) (i := 0) (kO d (ga d.crs i).b) rfl rfl rfl sl43 S38 rfl (by first | rfl | omega) (by first | omega | (simp only [List.length_set, List.length_append, List.length_replicate, List.length_singleton, List.length_cons, List.length_nil]; omega))) ?_)
        obtain ⟨hn6, hr14⟩ := hd8.2 (kO d (ga d.crs i).b) (by first | omega | (simp only [List.length_set, List.length_append, List.length_replicate, List.length_singleton, List.length_cons, List.length_nil]; omega))
        refine wl_op (k := 5) (k' := 6) rfl rfl rfl (wo_run rfl rfl (run_load1 rfl rfl Try.underlying22 rfl (S38.rowc (i := 0) (e := kO d (ga d.crs i).b) (j := 0) rfl (by first | omega | (simp only [List.length_set, List.length_append, List.length_replicate, List.length_singleton, List.length_cons, List.length_nil]; omega)) rfl (congrArg (fun n => some (Value.slice _ n _)) hn6))) ?_)
        refine wl_op (k := 6) (k' := 7) rfl rfl rfl (wo_ct rfl rfl rfl rfl rfl rfl rfl cf62 S38 (Put_t (ga (row2 d i) (kO d (ga d.crs i).b)) 1 1 hr14 ((by first | (have := rok_len (rok_rep (mny d)) (k := (kO d (ga d.crs i).b)) (by rw [List.length_replicate]; omega); omega) | (have := rok_len (rok1 d i) (k := (kO d (ga d.crs i).b)) (by rw [row1_len]; omega); omega) | (have := rok_len (rok2 d i) (k := (kO d (ga d.crs i).b)) (by rw [row2_len]; omega); omega))) S38.lend) ?_)
        intro vw36 w36 M24 hle24 S39 hRw36; clear S38
        replace hdcrs := hdcrs.mono (Hp.un_mono hle24 S39.mx)
        replace hr1 := hr1.mono hle24
        replace ht2 := ht2.mono hle24
        replace ht3 := ht3.mono hle24
        replace hd1 := hd1.mono hle24
        replace hr10 := hr10.mono hle24
        replace hr11 := hr11.mono hle24
        replace hd7 := hd7.mono hle24
        replace hr12 := hr12.mono hle24
        replace hr13 := hr13.mono hle24
        replace hd8 := hd8.mono hle24
        replace hr14 := hr14.mono hle24
        obtain ⟨A9, c9, rfl, hr15⟩ := hRw36
        refine wl_op (k := 7) (k' := 8) rfl rfl rfl (wo_ct rfl rfl rfl rfl rfl rfl rfl cf62 S39 (Put_t (put (ga (row2 d i) (kO d (ga d.crs i).b)) 1 1) 0 (-1) hr15 ((by have h9 := rok_put (rok2 d i) (kO d (ga d.crs i).b) (e := 1) (c := 1) (by omega) (by omega) (kO d (ga d.crs i).b) (by rw [putA_len, row2_len]; omega); unfold putA at h9; rw [ga_set _ _ _ _ (by rw [row2_len]; omega), if_pos rfl] at h9; have := can_len h9.1 h9.2; omega)) S39.lend) ?_)
        intro vw37 w37 M25 hle25 S40 hRw37; clear S39
        replace hdcrs := hdcrs.mono (Hp.un_mono hle25 S40.mx)
        replace hr1 := hr1.mono hle25
        replace ht2 := ht2.mono hle25
        replace ht3 := ht3.mono hle25
        replace hd1 := hd1.mono hle25
        replace hr10 := hr10.mono hle25
        replace hr11 := hr11.mono hle25
        replace hd7 := hd7.mono hle25
        replace hr12 := hr12.mono hle25
        replace hr13 := hr13.mono hle25
        replace hd8 := hd8.mono hle25
        replace hr14 := hr14.mono hle25
        replace hr15 := hr15.mono hle25
        obtain ⟨A10, c10, rfl, hr16⟩ := hRw37
        refine wl_op (k := 8) (k' := 9) rfl rfl rfl (wo_run rfl rfl (run_indexR (C := (cdV 22)) (i := 0) (kO d (ga d.crs i).b) rfl rfl rfl sl43 S40 rfl (by first | rfl | omega) (by first | omega | (simp only [List.length_set, List.length_append, List.length_replicate, List.length_singleton, List.length_cons, List.length_nil]; omega))) ?_)
        refine wl_op (k := 9) (k' := 10) rfl rfl rfl (wo_storeR (C := (cdV 22)) (i := 0) (e := kO d (ga d.crs i).b) (j := 0) (us := [_]) (H' := [_, _, _, _]) (⟨A10, (put (put (ga (row2 d i) (kO d (ga d.crs i).b)) 1 1) 0 (-1)).length, c10⟩ : SlV) rfl rfl S40 rfl (by first | omega | (simp only [List.length_set, List.length_append, List.length_replicate, List.length_singleton, List.length_cons, List.length_nil]; omega)) rfl rfl rfl sz22 rfl rfl rfl rfl ?_)
        intro w38 S41; clear S40
        have hd9 := hd8.set_ hr16 (kO d (ga d.crs i).b) (by first | omega | (simp only [List.length_set, List.length_append, List.length_replicate, List.length_singleton, List.length_cons, List.length_nil]; omega))
        refine wl_end rfl ?_
        refine nm_sub [(1, _), (3, _), (4, _), (5, _), (6, _), (8, _)] ⟨rfl, rfl, rfl, rfl, rfl, rfl, trivial⟩ ?_
        refine nm_thn ?_
        replace hd9 : Rd2 cdTm M25 ((((List.replicate (mny d) (cdV 22).z).set (kO d (ga d.crs i).c) (⟨A7, (put (ga (List.replicate (mny d) []) (kO d (ga d.crs i).c)) 0 1).length, c7⟩ : SlV)).set (kO d (ga d.crs i).a) (⟨A8, (put (ga (row1 d i) (kO d (ga d.crs i).a)) 1 (-1)).length, c8⟩ : SlV)).set (kO d (ga d.crs i).b) (⟨A10, (put (put (ga (row2 d i) (kO d (ga d.crs i).b)) 1 1) 0 (-1)).length, c10⟩ : SlV)) (rowL d i) := by (have e9 : rowL d i = (row2 d i).set (kO d (ga d.crs i).b) (put (put (ga (row2 d i) (kO d (ga d.crs i).b)) 1 1) 0 (-1)) := by (unfold rowL putA; rw [ga_set _ _ _ _ (by rw [row2_len]; omega), if_pos rfl, List.set_set])); rw [e9]; exact hd9
        have hrlhd9 := hd9.1
        simp only [row1_len, row2_len, rowL_len] at hrlhd9
        refine ws_region rfl ?_
        refine wl_op (k := 0) (k' := 1) rfl rfl rfl (wo_run rfl rfl (run_move rfl rfl) ?_)
        refine wl_op (k := 1) (k' := 2) rfl rfl rfl (wo_run rfl rfl (run_move rfl rfl) ?_)
        obtain ⟨M26, hle26, S42, ⟨A11, c11, e2, hr17⟩⟩ := S41.pubrow (i := 0) (H' := [_, _, _, _]) rfl rfl (by show _ * 24 ≤ _; first | omega | (simp only [List.length_set, List.length_append, List.length_replicate, List.length_singleton, List.length_cons, List.length_nil]; omega))
        clear S41; subst e2
        replace hdcrs := hdcrs.mono (Hp.un_mono hle26 S42.mx)
        replace hr1 := hr1.mono hle26
        replace ht2 := ht2.mono hle26
        replace ht3 := ht3.mono hle26
        replace hd1 := hd1.mono hle26
        replace hr10 := hr10.mono hle26
        replace hr11 := hr11.mono hle26
        replace hd7 := hd7.mono hle26
        replace hr12 := hr12.mono hle26
        replace hr13 := hr13.mono hle26
        replace hd8 := hd8.mono hle26
        replace hr14 := hr14.mono hle26
        replace hr15 := hr15.mono hle26
        replace hr16 := hr16.mono hle26
        replace hd9 := hd9.mono hle26
        refine wl_op (k := 2) (k' := 3) rfl rfl rfl (wo_buildSlice1 (C := (cdV 43)) (l := [_]) rfl rfl rfl rfl sl37 rfl rfl rfl rfl S42 ?_)
        intro gb4 w39 S43; clear S42
        refine wl_op (k := 3) (k' := 4) rfl rfl rfl (wo_append1 (C := (cdV 43)) (i := 3) (q := 0) (⟨A11, ((((List.replicate (mny d) (cdV 22).z).set (kO d (ga d.crs i).c) (⟨A7, (put (ga (List.replicate (mny d) []) (kO d (ga d.crs i).c)) 0 1).length, c7⟩ : SlV)).set (kO d (ga d.crs i).a) (⟨A8, (put (ga (row1 d i) (kO d (ga d.crs i).a)) 1 (-1)).length, c8⟩ : SlV)).set (kO d (ga d.crs i).b) (⟨A10, (put (put (ga (row2 d i) (kO d (ga d.crs i).b)) 1 1) 0 (-1)).length, c10⟩ : SlV)).length, c11⟩ : SlV) rfl rfl rfl rfl rfl rfl rfl rfl sl37 S43 rfl rfl rfl (by show (_ + 1) * 24 ≤ _; first | omega | (simp only [List.length_set, List.length_append, List.length_replicate, List.length_singleton, List.length_cons, List.length_nil]; omega)) ?_)
        intro vrt2 w40 S44; clear S43
        have S45 := S44.pick [1, 2, 3, 4] [_, _, _, _] (by decide) ⟨rfl, rfl, rfl, rfl, trivial⟩; clear S44
        have hd10 := ht2.snoc (c := c11) hr17
        have hd11 := ht3.snoc hd9
        refine wl_op (k := 4) (k' := 5) rfl rfl rfl (wo_run rfl rfl (run_assign rfl rfl) ?_)
        refine wl_end rfl ?_
        refine nm_blk ?_
        refine nm_sub [(1, _), (3, _), (4, _), (5, _), (6, _)] ⟨rfl, rfl, rfl, rfl, rfl, trivial⟩ ?_
        refine nm_thn ?_
        refine ws_region rfl ?_
        refine wl_op (k := 0) (k' := 1) rfl rfl rfl (wo_run rfl rfl (run_move rfl rfl) ?_)
        refine wl_op (k := 1) (k' := 2) rfl rfl rfl (wo_run rfl rfl (run_add rfl rfl rfl (by first | omega | (simp only [List.length_set, List.length_append, List.length_replicate, List.length_singleton, List.length_cons, List.length_nil]; omega))) ?_)
        refine wl_op (k := 2) (k' := 3) rfl rfl rfl (wo_run rfl rfl (run_assign rfl rfl) ?_)
        refine wl_end rfl ?_
        refine nm_lp ?_
        intro ax_ hax_
        refine ⟨_, ?hq3m, ⟨i + 1, _, (tss ++ [(((List.replicate (mny d) (cdV 22).z).set (kO d (ga d.crs i).c) (⟨A7, (put (ga (List.replicate (mny d) []) (kO d (ga d.crs i).c)) 0 1).length, c7⟩ : SlV)).set (kO d (ga d.crs i).a) (⟨A8, (put (ga (row1 d i) (kO d (ga d.crs i).a)) 1 (-1)).length, c8⟩ : SlV)).set (kO d (ga d.crs i).b) (⟨A10, (put (put (ga (row2 d i) (kO d (ga d.crs i).b)) 1 1) 0 (-1)).length, c10⟩ : SlV)]), (tm ++ [(rowL d i)]), _, _, (((((hle2.trans hle22).trans hle23).trans hle24).trans hle25).trans hle26), rfl, hax_.sub ⟨rfl, rfl, rfl, rfl, rfl, trivial⟩, S45.pick [2, 3] [_, _] (by decide) ⟨rfl, rfl, trivial⟩, ?hq3f0, ?hq3f1, ?hq3f2, ?hq3f3⟩⟩
        case hq3f0 => omega
        case hq3f1 => (rw [take_ga _ i (by rw [tblA_len]; omega), ← htm, tblA_ga d (by omega)])
        case hq3f2 => exact hd10
        case hq3f3 => exact hd11
        case hq3m => omega
    · have hb20 := of_decide_eq_false hb20
      refine ws_exit rfl rfl ?_
      refine nm_sub [(5, _)] ⟨rfl, trivial⟩ ?_
      refine nm_thn ?_
      refine ws_seqN TableOf_n44 TableOf_n45 rfl rfl rfl ?_
      refine ws_region rfl ?_
      refine wl_op (k := 0) (k' := 1) rfl rfl rfl (wo_run rfl rfl (run_move rfl rfl) ?_)
      refine wl_op (k := 1) (k' := 2) rfl rfl rfl (wo_run rfl rfl (run_assign rfl rfl) ?_)
      refine wl_end rfl ?_
      refine nm_sub [(2, _)] ⟨rfl, trivial⟩ ?_
      refine nm_thn ?_
      obtain ⟨M27, hle27, S46, ⟨A12, c12, e3, hr18⟩⟩ := S5.pubrow (i := 0) (H' := [_, _]) rfl rfl (by show _ * 24 ≤ _; first | omega | (simp only [List.length_set, List.length_append, List.length_replicate, List.length_singleton, List.length_cons, List.length_nil]; omega))
      clear S5; subst e3
      replace hdcrs := hdcrs.mono (Hp.un_mono hle27 S46.mx)
      replace hr1 := hr1.mono hle27
      replace ht2 := ht2.mono hle27
      replace ht3 := ht3.mono hle27
      refine ws_ret hC [_] rfl rfl ⟨rfl, trivial⟩ ?_
      refine ⟨_, rfl, _, (hle1.trans hle2).trans hle27, (S46.pick [] [] (by decide) trivial), ?_⟩
      obtain rfl : i = d.crs.length := by omega
      have e2 : tm = tblA d := by rw [htm, List.take_of_length_le (by rw [tblA_len]; omega)]
      rw [e2] at ht3
      exact ⟨_, _, _, _, rfl, hr18, ht2, ht3⟩
end Go.Proofs.Ytkcighnochjlgaa
set_option linter.unusedSimpArgs false
set_option linter.unusedVariables false
namespace Go.Proofs.Ytkcighnochjlgaa
open Go.ChangeShapes Go.WideShapes Go.ChangeAt Go.RowKit
noncomputable def AlexTables_n0 : Code := Try.f7.body.getD .skip
noncomputable def AlexTables_n1 : Code := cL AlexTables_n0
noncomputable def AlexTables_n2 : Code := cR AlexTables_n0
noncomputable def AlexTables_n3 : Code := cL AlexTables_n2
noncomputable def AlexTables_n4 : Code := cR AlexTables_n2
noncomputable def AlexTables_n5 : Code := cL AlexTables_n4
noncomputable def AlexTables_n6 : Code := cR AlexTables_n4
noncomputable def AlexTables_n7 : Code := cL AlexTables_n6
noncomputable def AlexTables_n8 : Code := cR AlexTables_n6
noncomputable def AlexTables_n9 : Code := cL AlexTables_n7
noncomputable def AlexTables_n10 : Code := cR AlexTables_n7
noncomputable def AlexTables_n11 : Code := cL AlexTables_n10
noncomputable def AlexTables_n12 : Code := cR AlexTables_n10
noncomputable def AlexTables_n13 : Code := cL AlexTables_n11
noncomputable def AlexTables_n14 : Code := cR AlexTables_n11
noncomputable def AlexTables_n15 : Code := cL AlexTables_n8
noncomputable def AlexTables_n16 : Code := cR AlexTables_n8
noncomputable def AlexTables_n17 : Code := cL AlexTables_n16
noncomputable def AlexTables_n18 : Code := cR AlexTables_n16
noncomputable def AlexTables_n19 : Code := cL AlexTables_n17
noncomputable def AlexTables_n20 : Code := cR AlexTables_n17
noncomputable def AlexTables_n21 : Code := cL AlexTables_n20
noncomputable def AlexTables_n22 : Code := cR AlexTables_n20
noncomputable def AlexTables_n23 : Code := cL AlexTables_n21
noncomputable def AlexTables_n24 : Code := cR AlexTables_n21
noncomputable def AlexTables_n25 : Code := cL AlexTables_n18
noncomputable def AlexTables_n26 : Code := cR AlexTables_n18
noncomputable def AlexTables_n27 : Code := cL AlexTables_n25
noncomputable def AlexTables_n28 : Code := cR AlexTables_n25
noncomputable def AlexTables_n29 : Code := cL AlexTables_n28
noncomputable def AlexTables_n30 : Code := cL AlexTables_n29
noncomputable def AlexTables_n31 : Code := cL AlexTables_n30
noncomputable def AlexTables_n32 : Code := cR AlexTables_n30
noncomputable def AlexTables_n33 : Code := cL AlexTables_n31
noncomputable def AlexTables_n34 : Code := cR AlexTables_n31
noncomputable def AlexTables_n35 : Code := cL AlexTables_n34
noncomputable def AlexTables_n36 : Code := cR AlexTables_n34
noncomputable def AlexTables_n37 : Code := cL AlexTables_n32
noncomputable def AlexTables_n38 : Code := cR AlexTables_n32
noncomputable def AlexTables_n39 : Code := cL AlexTables_n37
noncomputable def AlexTables_n40 : Code := cL AlexTables_n39
noncomputable def AlexTables_n41 : Code := cR AlexTables_n39
noncomputable def AlexTables_n42 : Code := cL AlexTables_n40
noncomputable def AlexTables_n43 : Code := cR AlexTables_n40
noncomputable def AlexTables_n44 : Code := cL AlexTables_n43
noncomputable def AlexTables_n45 : Code := cR AlexTables_n43
noncomputable def AlexTables_n46 : Code := cL AlexTables_n41
noncomputable def AlexTables_n47 : Code := cR AlexTables_n41
noncomputable def AlexTables_n48 : Code := cL AlexTables_n47
noncomputable def AlexTables_n49 : Code := cL AlexTables_n48
noncomputable def AlexTables_n50 : Code := cL AlexTables_n49
noncomputable def AlexTables_n51 : Code := cR AlexTables_n49
noncomputable def AlexTables_n52 : Code := cL AlexTables_n50
noncomputable def AlexTables_n53 : Code := cR AlexTables_n50
noncomputable def AlexTables_n54 : Code := cL AlexTables_n53
noncomputable def AlexTables_n55 : Code := cR AlexTables_n53
noncomputable def AlexTables_n56 : Code := cL AlexTables_n51
noncomputable def AlexTables_n57 : Code := cR AlexTables_n51
noncomputable def AlexTables_n58 : Code := cL AlexTables_n56
noncomputable def AlexTables_n59 : Code := cL AlexTables_n58
noncomputable def AlexTables_n60 : Code := cR AlexTables_n58
noncomputable def AlexTables_n62 : Code := cR AlexTables_n60
noncomputable def AlexTables_n63 : Code := cL AlexTables_n26
noncomputable def AlexTables_n64 : Code := cR AlexTables_n26
set_option maxHeartbeats 1000000 in
set_option maxRecDepth 10000 in
theorem AlexTables_t {w : World} {M : Hp} {X : Fr} (d : Dg) {dcrsA : Option Addr} {dcrsc : Nat} (hdcrs : RdA cdCr M dcrsA dcrsc d.crs) (S : SH w M X []) : Ct Try.prog 7 [.agg [.slice dcrsA d.crs.length dcrsc, .int .i64 d.loops].toArray] w M X (fun u _ => u = .bool true) := by
  unfold Ct
  have rmhdcrs : d.crs.length * 40 ≤ 140737488355328 := hdcrs.room
  refine calls_in (b := AlexTables_n0) Try.func7 rfl Try.ntmps7 rfl (fun C hC => ?_)
  refine ws_sub [(0, _)] ⟨rfl, trivial⟩ ?_
  refine ws_seqN AlexTables_n1 AlexTables_n2 rfl rfl rfl ?_
  refine ws_region rfl ?_
  refine wl_op (k := 0) (k' := 1) rfl rfl rfl (wo_box (l := [_, _]) rfl rfl rfl rfl rfl S ?_)
  intro gb1 w1 S1; clear S
  refine wl_op (k := 1) (k' := 2) rfl rfl rfl (wo_run rfl rfl (run_assign rfl rfl) ?_)
  refine wl_end rfl ?_
  refine nm_sub [(1, _)] ⟨rfl, trivial⟩ ?_
  refine nm_thn ?_
  refine ws_seqN AlexTables_n3 AlexTables_n4 rfl rfl rfl ?_
  refine ws_region rfl ?_
  refine wl_op (k := 0) (k' := 1) rfl rfl rfl (wo_run rfl rfl (run_loadN (us := [_, _]) rfl rfl Try.underlying51 rfl sz51 (S1.boxcs (i := 0) rfl ⟨rfl, rfl, trivial⟩)) ?_)
  refine wl_op (k := 1) (k' := 2) rfl rfl rfl (wo_ct rfl rfl rfl rfl rfl rfl rfl cf34 S1 (DiagramOf_t d (hdcrs.mono (Hp.le_un _ _)) S1.lend) ?_)
  intro vw2 w2 M1 hle1 S2 hRw2; clear S1
  replace hdcrs := hdcrs.mono hle1
  obtain ⟨A1, c1, rfl, hr1⟩ := hRw2
  refine wl_op (k := 2) (k' := 3) rfl rfl rfl (wo_ct rfl rfl rfl rfl rfl rfl rfl cf33 S2 (ATab_t d (hr1.mono (Hp.le_un _ _)) S2.lend) ?_)
  intro vw3 w3 M2 hle2 S3 hRw3; clear S2
  replace hdcrs := hdcrs.mono hle2
  replace hr1 := hr1.mono hle2
  rcases hRw3 with ⟨hok, rfl⟩ | ⟨hok, A2, c2, vs1, ss1, rfl, hr2, hd1, h31⟩
  · refine wl_op (k := 3) (k' := 4) rfl rfl rfl (wo_run rfl rfl (run_move rfl rfl) ?_)
    refine wl_op (k := 4) (k' := 5) rfl rfl rfl (wo_run rfl rfl (run_extract rfl rfl rfl) ?_)
    refine wl_op (k := 5) (k' := 6) rfl rfl rfl (wo_run rfl rfl (run_extract rfl rfl rfl) ?_)
    refine wl_op (k := 6) (k' := 7) rfl rfl rfl (wo_run rfl rfl (run_assign rfl rfl) ?_)
    refine wl_op (k := 7) (k' := 8) rfl rfl rfl (wo_run rfl rfl (run_assign rfl rfl) ?_)
    refine wl_end rfl ?_
    refine nm_sub [(1, _), (3, _), (4, _)] ⟨rfl, rfl, rfl, trivial⟩ ?_
    refine nm_thn ?_
    refine ws_seqN AlexTables_n5 AlexTables_n6 rfl rfl rfl ?_
    refine ws_region rfl ?_
    refine wl_op (k := 0) (k' := 1) rfl rfl rfl (wo_run rfl rfl (run_loadN (us := [_, _]) rfl rfl Try.underlying51 rfl sz51 (S3.boxcs (i := 0) rfl ⟨rfl, rfl, trivial⟩)) ?_)
    refine wl_op (k := 1) (k' := 2) rfl rfl rfl (wo_ct rfl rfl rfl rfl rfl rfl rfl cf35 S3 (few_t d 10 (hdcrs.mono (Hp.le_un _ _)) S3.lend) ?_)
    intro vw4 w4 M3 hle3 S4 hRw4; clear S3
    replace hdcrs := hdcrs.mono hle3
    replace hr1 := hr1.mono hle3
    obtain rfl := hRw4
    refine wl_op (k := 2) (k' := 3) rfl rfl rfl (wo_run rfl rfl (run_assign rfl rfl) ?_)
    refine wl_end rfl ?_
    refine nm_sub [(1, _), (3, _), (4, _), (5, _)] ⟨rfl, rfl, rfl, rfl, trivial⟩ ?_
    refine nm_thn ?_
    refine ws_seqN AlexTables_n7 AlexTables_n8 rfl rfl rfl ?_
    refine ws_seqN AlexTables_n9 AlexTables_n10 rfl rfl rfl ?_
    refine ws_region rfl ?_
    refine wl_op (k := 0) (k' := 1) rfl rfl rfl (wo_run rfl rfl (run_move rfl rfl) ?_)
    refine wl_op (k := 1) (k' := 2) rfl rfl rfl (wo_run rfl rfl (run_neq rfl rfl rfl) ?_)
    refine wl_end rfl ?_
    refine nm_sub [(1, _), (3, _), (4, _), (5, _), (18, _)] ⟨rfl, rfl, rfl, rfl, rfl, trivial⟩ ?_
    refine nm_thn ?_
    refine ws_condN AlexTables_n11 AlexTables_n12 rfl rfl rfl rfl (fun hb18 => ?_) (fun hb18 => ?_)
    · have hb18 := of_decide_eq_true hb18
      refine ws_seqN AlexTables_n13 AlexTables_n14 rfl rfl rfl ?_
      refine ws_region rfl ?_
      refine wl_op (k := 0) (k' := 1) rfl rfl rfl (wo_run rfl rfl (run_move rfl rfl) ?_)
      refine wl_op (k := 1) (k' := 2) rfl rfl rfl (wo_run rfl rfl (run_move rfl rfl) ?_)
      refine wl_op (k := 2) (k' := 3) rfl rfl rfl (wo_run rfl rfl (run_eql rfl rfl rfl) ?_)
      refine wl_op (k := 3) (k' := 4) rfl rfl rfl (wo_run rfl rfl (run_move rfl rfl) ?_)
      refine wl_split (t := 22) rfl (fun hg22 => ?_) (fun hg22 => ?_)
      · have hg22 := of_decide_eq_true hg22
        refine wl_opG (k := 4) (k' := 5) rfl rfl ⟨_, _, _, rfl, rfl, rfl, rfl⟩ rfl (wo_run rfl rfl (run_move rfl rfl) ?_)
        refine wl_opG (k := 5) (k' := 6) rfl rfl ⟨_, _, _, rfl, rfl, rfl, rfl⟩ rfl (wo_run rfl rfl (run_len rfl rfl rfl rfl rfl rfl Try.underlying37) ?_)
        refine wl_opG (k := 6) (k' := 7) rfl rfl ⟨_, _, _, rfl, rfl, rfl, rfl⟩ rfl (wo_run rfl rfl (run_eql rfl rfl rfl) ?_)
        refine wl_op (k := 7) (k' := 8) rfl rfl rfl (wo_run rfl rfl (run_pickT rfl rfl rfl) ?_)
        refine wl_op (k := 8) (k' := 9) rfl rfl rfl (wo_run rfl rfl (run_assign rfl rfl) ?_)
        refine wl_end rfl ?_
        refine nm_sub [(2, _)] ⟨rfl, trivial⟩ ?_
        refine nm_thn ?_
        refine ws_ret hC [_] rfl rfl ⟨rfl, trivial⟩ ?_
        refine ⟨_, rfl, _, (hle1.trans hle2).trans hle3, (S4.pick [] [] (by decide) trivial), ?_⟩
        show Value.bool _ = _
        refine congrArg Value.bool ?_
        first | rfl | (rw [decide_eq_true_iff]; omega) | (simp_all; done)
      · have hg22 := of_decide_eq_false hg22
        refine wl_no (k := 4) (k' := 5) (d := 23) rfl rfl ⟨_, _, _, rfl, rfl, rfl, rfl⟩ rfl rfl ?_
        refine wl_no (k := 5) (k' := 6) (d := 24) rfl rfl ⟨_, _, _, rfl, rfl, rfl, rfl⟩ rfl rfl ?_
        refine wl_no (k := 6) (k' := 7) (d := 25) rfl rfl ⟨_, _, _, rfl, rfl, rfl, rfl⟩ rfl rfl ?_
        refine wl_op (k := 7) (k' := 8) rfl rfl rfl (wo_run rfl rfl (run_pickF rfl rfl rfl) ?_)
        refine wl_op (k := 8) (k' := 9) rfl rfl rfl (wo_run rfl rfl (run_assign rfl rfl) ?_)
        refine wl_end rfl ?_
        refine nm_sub [(2, _)] ⟨rfl, trivial⟩ ?_
        refine nm_thn ?_
        refine ws_ret hC [_] rfl rfl ⟨rfl, trivial⟩ ?_
        refine ⟨_, rfl, _, (hle1.trans hle2).trans hle3, (S4.pick [] [] (by decide) trivial), ?_⟩
        show Value.bool _ = _
        refine congrArg Value.bool ?_
        first | rfl | (rw [decide_eq_true_iff]; omega) | (simp_all; done)
    · have hb18 := of_decide_eq_false hb18
      exfalso; first | omega | (simp_all; done) | contradiction
  · have hlhd1 := hd1.1
    have hlh31 := h31.1
    obtain ⟨heO, hnm⟩ := errK_ok hok
    obtain ⟨hmo, hpl⟩ := errO_ok heO
    obtain ⟨hn, hab, hlo0, hlo1⟩ := mayO hmo
    have htl := tblA_len d
    refine wl_op (k := 3) (k' := 4) rfl rfl rfl (wo_run rfl rfl (run_move rfl rfl) ?_)
    refine wl_op (k := 4) (k' := 5) rfl rfl rfl (wo_run rfl rfl (run_extract rfl rfl rfl) ?_)
    refine wl_op (k := 5) (k' := 6) rfl rfl rfl (wo_run rfl rfl (run_extract rfl rfl rfl) ?_)
    refine wl_op (k := 6) (k' := 7) rfl rfl rfl (wo_run rfl rfl (run_assign rfl rfl) ?_)
    refine wl_op (k := 7) (k' := 8) rfl rfl rfl (wo_run rfl rfl (run_assign rfl rfl) ?_)
    refine wl_end rfl ?_
    refine nm_sub [(1, _), (3, _), (4, _)] ⟨rfl, rfl, rfl, trivial⟩ ?_
    refine nm_thn ?_
    refine ws_seqN AlexTables_n5 AlexTables_n6 rfl rfl rfl ?_
    refine ws_region rfl ?_
    refine wl_op (k := 0) (k' := 1) rfl rfl rfl (wo_run rfl rfl (run_loadN (us := [_, _]) rfl rfl Try.underlying51 rfl sz51 (S3.boxcs (i := 0) rfl ⟨rfl, rfl, trivial⟩)) ?_)
    refine wl_op (k := 1) (k' := 2) rfl rfl rfl (wo_ct rfl rfl rfl rfl rfl rfl rfl cf35 S3 (few_t d 10 (hdcrs.mono (Hp.le_un _ _)) S3.lend) ?_)
    intro vw5 w5 M4 hle4 S5 hRw5; clear S3
    replace hdcrs := hdcrs.mono hle4
    replace hr1 := hr1.mono hle4
    replace hr2 := hr2.mono hle4
    replace hd1 := hd1.mono hle4
    replace h31 := h31.mono hle4
    obtain rfl := hRw5
    refine wl_op (k := 2) (k' := 3) rfl rfl rfl (wo_run rfl rfl (run_assign rfl rfl) ?_)
    refine wl_end rfl ?_
    refine nm_sub [(1, _), (3, _), (4, _), (5, _)] ⟨rfl, rfl, rfl, rfl, trivial⟩ ?_
    refine nm_thn ?_
    refine ws_seqN AlexTables_n7 AlexTables_n8 rfl rfl rfl ?_
    refine ws_seqN AlexTables_n9 AlexTables_n10 rfl rfl rfl ?_
    refine ws_region rfl ?_
    refine wl_op (k := 0) (k' := 1) rfl rfl rfl (wo_run rfl rfl (run_move rfl rfl) ?_)
    refine wl_op (k := 1) (k' := 2) rfl rfl rfl (wo_run rfl rfl (run_neq rfl rfl rfl) ?_)
    refine wl_end rfl ?_
    refine nm_sub [(1, _), (3, _), (4, _), (5, _), (18, _)] ⟨rfl, rfl, rfl, rfl, rfl, trivial⟩ ?_
    refine nm_thn ?_
    refine ws_condN AlexTables_n11 AlexTables_n12 rfl rfl rfl rfl (fun hb18 => ?_) (fun hb18 => ?_)
    · have hb18 := of_decide_eq_true hb18
      exfalso; first | omega | (simp_all; done) | contradiction
    · have hb18 := of_decide_eq_false hb18
      refine ws_skip rfl ?_
      refine nm_sub [(1, _), (3, _), (4, _)] ⟨rfl, rfl, rfl, trivial⟩ ?_
      refine nm_thn ?_
      refine ws_seqN AlexTables_n15 AlexTables_n16 rfl rfl rfl ?_
      refine ws_region rfl ?_
      refine wl_op (k := 0) (k' := 1) rfl rfl rfl (wo_run rfl rfl (run_loadN (us := [_, _]) rfl rfl Try.underlying51 rfl sz51 (S5.boxcs (i := 0) rfl ⟨rfl, rfl, trivial⟩)) ?_)
      refine wl_op (k := 1) (k' := 2) rfl rfl rfl (wo_ct rfl rfl rfl rfl rfl rfl rfl cf36 S5 (TableOf_t d (hdcrs.mono (Hp.le_un _ _)) (hn) (hab) S5.lend) ?_)
      intro vw6 w6 M5 hle5 S6 hRw6; clear S5
      replace hdcrs := hdcrs.mono hle5
      replace hr1 := hr1.mono hle5
      replace hr2 := hr2.mono hle5
      replace hd1 := hd1.mono hle5
      replace h31 := h31.mono hle5
      obtain ⟨A3, c3, vs2, ss2, rfl, hr3, hd2, h32⟩ := hRw6
      have hlhd2 := hd2.1
      have hlh32 := h32.1
      refine wl_op (k := 2) (k' := 3) rfl rfl rfl (wo_run rfl rfl (run_assign rfl rfl) ?_)
      refine wl_end rfl ?_
      refine nm_sub [(3, _), (4, _), (6, _)] ⟨rfl, rfl, rfl, trivial⟩ ?_
      refine nm_thn ?_
      refine ws_seqN AlexTables_n17 AlexTables_n18 rfl rfl rfl ?_
      refine ws_seqN AlexTables_n19 AlexTables_n20 rfl rfl rfl ?_
      refine ws_region rfl ?_
      refine wl_op (k := 0) (k' := 1) rfl rfl rfl (wo_run rfl rfl (run_move rfl rfl) ?_)
      refine wl_op (k := 1) (k' := 2) rfl rfl rfl (wo_run rfl rfl (run_neq rfl rfl rfl) ?_)
      refine wl_op (k := 2) (k' := 3) rfl rfl rfl (wo_run rfl rfl (run_move rfl rfl) ?_)
      refine wl_split (t := 31) rfl (fun hg31 => ?_) (fun hg31 => ?_)
      · have hg31 := of_decide_eq_true hg31
        refine wl_no (k := 3) (k' := 4) (d := 32) rfl rfl ⟨_, _, _, rfl, rfl, rfl, rfl⟩ rfl rfl ?_
        refine wl_no (k := 4) (k' := 5) (d := 33) rfl rfl ⟨_, _, _, rfl, rfl, rfl, rfl⟩ rfl rfl ?_
        refine wl_no (k := 5) (k' := 6) (d := 34) rfl rfl ⟨_, _, _, rfl, rfl, rfl, rfl⟩ rfl rfl ?_
        refine wl_no (k := 6) (k' := 7) (d := 35) rfl rfl ⟨_, _, _, rfl, rfl, rfl, rfl⟩ rfl rfl ?_
        refine wl_no (k := 7) (k' := 8) (d := 36) rfl rfl ⟨_, _, _, rfl, rfl, rfl, rfl⟩ rfl rfl ?_
        refine wl_op (k := 8) (k' := 9) rfl rfl rfl (wo_run rfl rfl (run_pickT rfl rfl rfl) ?_)
        refine wl_end rfl ?_
        refine nm_sub [(3, _), (6, _), (37, _)] ⟨rfl, rfl, rfl, trivial⟩ ?_
        refine nm_thn ?_
        refine ws_condTN AlexTables_n21 rfl rfl rfl ?_
        refine ws_seqN AlexTables_n23 AlexTables_n24 rfl rfl rfl ?_
        refine ws_region rfl ?_
        refine wl_op (k := 0) (k' := 1) rfl rfl rfl (wo_run rfl rfl (run_assign rfl rfl) ?_)
        refine wl_end rfl ?_
        refine nm_sub [(2, _)] ⟨rfl, trivial⟩ ?_
        refine nm_thn ?_
        refine ws_ret hC [_] rfl rfl ⟨rfl, trivial⟩ ?_
        refine ⟨_, rfl, _, ((hle1.trans hle2).trans hle4).trans hle5, (S6.pick [] [] (by decide) trivial), ?_⟩
        show Value.bool _ = _
        refine congrArg Value.bool ?_
        first | rfl | (rw [decide_eq_true_iff]; omega) | (simp_all; done)
      · have hg31 := of_decide_eq_false hg31
        refine wl_opG (k := 3) (k' := 4) rfl rfl ⟨_, _, _, rfl, rfl, rfl, rfl⟩ rfl (wo_run rfl rfl (run_move rfl rfl) ?_)
        refine wl_opG (k := 4) (k' := 5) rfl rfl ⟨_, _, _, rfl, rfl, rfl, rfl⟩ rfl (wo_run rfl rfl (run_len rfl rfl rfl rfl rfl rfl Try.underlying37) ?_)
        refine wl_opG (k := 5) (k' := 6) rfl rfl ⟨_, _, _, rfl, rfl, rfl, rfl⟩ rfl (wo_run rfl rfl (run_move rfl rfl) ?_)
        refine wl_opG (k := 6) (k' := 7) rfl rfl ⟨_, _, _, rfl, rfl, rfl, rfl⟩ rfl (wo_run rfl rfl (run_len rfl rfl rfl rfl rfl rfl Try.underlying37) ?_)
        refine wl_opG (k := 7) (k' := 8) rfl rfl ⟨_, _, _, rfl, rfl, rfl, rfl⟩ rfl (wo_run rfl rfl (run_neq rfl rfl rfl) ?_)
        refine wl_op (k := 8) (k' := 9) rfl rfl rfl (wo_run rfl rfl (run_pickF rfl rfl rfl) ?_)
        refine wl_end rfl ?_
        refine nm_sub [(3, _), (6, _), (37, _)] ⟨rfl, rfl, rfl, trivial⟩ ?_
        refine nm_thn ?_
        refine ws_condN AlexTables_n21 AlexTables_n22 rfl rfl rfl rfl (fun hb37 => ?_) (fun hb37 => ?_)
        · have hb37 := of_decide_eq_true hb37
          exfalso; first | omega | (simp_all; done) | contradiction
        · have hb37 := of_decide_eq_false hb37
          refine ws_skip rfl ?_
          refine nm_sub [(3, _), (6, _)] ⟨rfl, rfl, trivial⟩ ?_
          refine nm_thn ?_
          refine ws_seqN AlexTables_n25 AlexTables_n26 rfl rfl rfl ?_
          refine ws_seqN AlexTables_n27 AlexTables_n28 rfl rfl rfl ?_
          refine ws_region rfl ?_
          refine wl_op (k := 0) (k' := 1) rfl rfl rfl (wo_run rfl rfl (run_assign rfl rfl) ?_)
          refine wl_end rfl ?_
          refine nm_thn ?_
          refine ws_blockN AlexTables_n29 0 rfl rfl rfl ?_
          refine ws_loopE (fun mx_ ax_ wx_ => ∃ (i : Nat), mx_ = d.crs.length - i ∧ Env 80 [(3, .slice A2 vs1.length c2), (6, .slice A3 vs2.length c3), (7, .int .i64 (i : Int))] ax_ ∧ SH wx_ M5 X [] ∧ i ≤ d.crs.length) rfl ?_ ?_
          · intro ax_ hax_
            refine ⟨_, ⟨0, rfl, hax_.sub ⟨rfl, rfl, rfl, trivial⟩, S6.pick [] [] (by decide) trivial, ?hq1f0⟩⟩
            case hq1f0 => omega
          · rintro m1 a1 w7 ⟨i, rfl, he1, S7, hi⟩
            clear S6
            refine ws_in he1 (c := AlexTables_n30) rfl ?_
            clear he1 a1
            refine ws_seqN AlexTables_n31 AlexTables_n32 rfl rfl rfl ?_
            refine ws_seqN AlexTables_n33 AlexTables_n34 rfl rfl rfl ?_
            refine ws_region rfl ?_
            refine wl_op (k := 0) (k' := 1) rfl rfl rfl (wo_run rfl rfl (run_move rfl rfl) ?_)
            refine wl_op (k := 1) (k' := 2) rfl rfl rfl (wo_run rfl rfl (run_move rfl rfl) ?_)
            refine wl_op (k := 2) (k' := 3) rfl rfl rfl (wo_run rfl rfl (run_len rfl rfl rfl rfl rfl rfl Try.underlying37) ?_)
            refine wl_op (k := 3) (k' := 4) rfl rfl rfl (wo_run rfl rfl (run_lss rfl rfl rfl) ?_)
            refine wl_end rfl ?_
            refine nm_sub [(3, _), (6, _), (7, _), (41, _)] ⟨rfl, rfl, rfl, rfl, trivial⟩ ?_
            refine nm_thn ?_
            refine ws_condN AlexTables_n35 AlexTables_n36 rfl rfl rfl rfl (fun hb41 => ?_) (fun hb41 => ?_)
            · have hb41 := of_decide_eq_true hb41
              refine ws_skip rfl ?_
              refine nm_sub [(3, _), (6, _), (7, _)] ⟨rfl, rfl, rfl, trivial⟩ ?_
              refine nm_thn ?_
              refine ws_seqN AlexTables_n37 AlexTables_n38 rfl rfl rfl ?_
              refine ws_blockN AlexTables_n39 1 rfl rfl rfl ?_
              refine ws_seqN AlexTables_n40 AlexTables_n41 rfl rfl rfl ?_
              refine ws_seqN AlexTables_n42 AlexTables_n43 rfl rfl rfl ?_
              refine ws_draw rfl (by kernel_rfl) S7 11 rfl ?_
              clear S7
              refine wa_takeP (i := 0) (d := 44) 10 rfl (by kernel_rfl) (by kernel_rfl) (by kernel_rfl) rfl rfl rfl (fun w8 => run_move rfl rfl) ?_
              refine wa_takeP (i := 1) (d := 45) 9 rfl (by kernel_rfl) (by kernel_rfl) (by kernel_rfl) rfl rfl rfl (fun w9 => run_move rfl rfl) ?_
              refine wa_take (i := 2) (d := 46) 8 rfl (by kernel_rfl) (by kernel_rfl) (by kernel_rfl) rfl rfl rfl (fun M8 N3 w10 hle9 S10 => .inl (run_indexM (C := (cdV 43)) i rfl rfl rfl sl37 (by first | rfl | omega) (hr2.mono hle9) (by first | omega | (simp only [List.length_set, List.length_append, List.length_replicate, List.length_singleton, List.length_cons, List.length_nil]; omega)))) ?_
              obtain ⟨hn1, hr4⟩ := hd1.2 i (by first | omega | (simp only [List.length_set, List.length_append, List.length_replicate, List.length_singleton, List.length_cons, List.length_nil]; omega))
              have rmhr4 : (ga ss1 i).length * 24 ≤ 140737488355328 := hr4.room
              have hW1 := h31.2 i (by have := h31.1; have := hd1.1; first | omega | (simp_all; omega))
              have hW1l := hW1.1
              refine wa_take (i := 3) (d := 47) 7 rfl (by kernel_rfl) (by kernel_rfl) (by kernel_rfl) rfl rfl rfl (fun M9 N4 w11 hle10 S11 => .inl (run_load1 rfl rfl Try.underlying43 rfl ((hr2.mono hle10).cell S11.m (i := i) (by first | omega | (simp only [List.length_set, List.length_append, List.length_replicate, List.length_singleton, List.length_cons, List.length_nil]; omega)) 0 rfl (congrArg (fun n => some (Value.slice _ n _)) hn1)))) ?_
              refine wa_take (i := 4) (d := 48) 6 rfl (by kernel_rfl) (by kernel_rfl) (by kernel_rfl) rfl rfl rfl (fun M10 N5 w12 hle11 S12 => .inl (run_len rfl rfl rfl rfl rfl rfl Try.underlying43)) ?_
              refine wa_takeP (i := 5) (d := 49) 5 rfl (by kernel_rfl) (by kernel_rfl) (by kernel_rfl) rfl rfl rfl (fun w13 => run_move rfl rfl) ?_
              refine wa_takeP (i := 6) (d := 50) 4 rfl (by kernel_rfl) (by kernel_rfl) (by kernel_rfl) rfl rfl rfl (fun w14 => run_move rfl rfl) ?_
              refine wa_take (i := 7) (d := 51) 3 rfl (by kernel_rfl) (by kernel_rfl) (by kernel_rfl) rfl rfl rfl (fun M13 N8 w15 hle14 S15 => .inl (run_indexM (C := (cdV 43)) i rfl rfl rfl sl37 (by first | rfl | omega) (hr3.mono hle14) (by first | omega | (simp only [List.length_set, List.length_append, List.length_replicate, List.length_singleton, List.length_cons, List.length_nil]; omega)))) ?_
              obtain ⟨hn2, hr5⟩ := hd2.2 i (by first | omega | (simp only [List.length_set, List.length_append, List.length_replicate, List.length_singleton, List.length_cons, List.length_nil]; omega))
              have rmhr5 : (ga ss2 i).length * 24 ≤ 140737488355328 := hr5.room
              have hW2 := h32.2 i (by have := h32.1; have := hd2.1; first | omega | (simp_all; omega))
              have hW2l := hW2.1
              refine wa_take (i := 8) (d := 52) 2 rfl (by kernel_rfl) (by kernel_rfl) (by kernel_rfl) rfl rfl rfl (fun M14 N9 w16 hle15 S16 => .inl (run_load1 rfl rfl Try.underlying43 rfl ((hr3.mono hle15).cell S16.m (i := i) (by first | omega | (simp only [List.length_set, List.length_append, List.length_replicate, List.length_singleton, List.length_cons, List.length_nil]; omega)) 0 rfl (congrArg (fun n => some (Value.slice _ n _)) hn2)))) ?_
              refine wa_take (i := 9) (d := 53) 1 rfl (by kernel_rfl) (by kernel_rfl) (by kernel_rfl) rfl rfl rfl (fun M15 N10 w17 hle16 S17 => .inl (run_len rfl rfl rfl rfl rfl rfl Try.underlying43)) ?_
              refine wa_takeP (i := 10) (d := 54) 0 rfl (by kernel_rfl) (by kernel_rfl) (by kernel_rfl) rfl rfl rfl (fun w18 => run_neq rfl rfl rfl) ?_
              refine wa_end (by kernel_rfl) (fun w19 S19 => ?_)
              refine nm_sub [(3, _), (6, _), (7, _), (54, _)] ⟨rfl, rfl, rfl, rfl, trivial⟩ ?_
              refine nm_thn ?_
              refine ws_condN AlexTables_n44 AlexTables_n45 rfl rfl rfl rfl (fun hb54 => ?_) (fun hb54 => ?_)
              · have hb54 := of_decide_eq_true hb54
                exfalso; first | omega | (simp_all; done) | contradiction
              · have hb54 := of_decide_eq_false hb54
                refine ws_skip rfl ?_
                refine nm_sub [(3, _), (6, _), (7, _)] ⟨rfl, rfl, rfl, trivial⟩ ?_
                refine nm_thn ?_
                refine ws_seqN AlexTables_n46 AlexTables_n47 rfl rfl rfl ?_
                refine ws_region rfl ?_
                refine wl_op (k := 0) (k' := 1) rfl rfl rfl (wo_run rfl rfl (run_assign rfl rfl) ?_)
                refine wl_end rfl ?_
                refine nm_thn ?_
                refine ws_blockN AlexTables_n48 2 rfl rfl rfl ?_
                refine ws_loopE (fun mx_ ax_ wx_ => ∃ (k : Nat), mx_ = (ga (tblA d) i).length - k ∧ Env 80 [(3, .slice A2 vs1.length c2), (6, .slice A3 vs2.length c3), (7, .int .i64 (i : Int)), (8, .int .i64 (k : Int))] ax_ ∧ SH wx_ M5 X [] ∧ k ≤ (ga (tblA d) i).length) rfl ?_ ?_
                · intro ax_ hax_
                  refine ⟨_, ⟨0, rfl, hax_.sub ⟨rfl, rfl, rfl, rfl, trivial⟩, S19.pick [] [] (by decide) trivial, ?hq2f0⟩⟩
                  case hq2f0 => omega
                · rintro m2 a2 w20 ⟨k, rfl, he2, S20, hk⟩
                  clear S19
                  refine ws_in he2 (c := AlexTables_n49) rfl ?_
                  clear he2 a2
                  refine ws_seqN AlexTables_n50 AlexTables_n51 rfl rfl rfl ?_
                  refine ws_seqN AlexTables_n52 AlexTables_n53 rfl rfl rfl ?_
                  refine ws_region rfl ?_
                  refine wl_op (k := 0) (k' := 1) rfl rfl rfl (wo_run rfl rfl (run_move rfl rfl) ?_)
                  refine wl_op (k := 1) (k' := 2) rfl rfl rfl (wo_run rfl rfl (run_move rfl rfl) ?_)
                  refine wl_op (k := 2) (k' := 3) rfl rfl rfl (wo_run rfl rfl (run_move rfl rfl) ?_)
                  refine wl_op (k := 3) (k' := 4) rfl rfl rfl (wo_run rfl rfl (run_indexM (C := (cdV 43)) i rfl rfl rfl sl37 (by first | rfl | omega) hr2 (by first | omega | (simp only [List.length_set, List.length_append, List.length_replicate, List.length_singleton, List.length_cons, List.length_nil]; omega))) ?_)
                  obtain ⟨hn3, hr6⟩ := hd1.2 i (by first | omega | (simp only [List.length_set, List.length_append, List.length_replicate, List.length_singleton, List.length_cons, List.length_nil]; omega))
                  have rmhr6 : (ga ss1 i).length * 24 ≤ 140737488355328 := hr6.room
                  have hW3 := h31.2 i (by have := h31.1; have := hd1.1; first | omega | (simp_all; omega))
                  have hW3l := hW3.1
                  refine wl_op (k := 4) (k' := 5) rfl rfl rfl (wo_run rfl rfl (run_load1 rfl rfl Try.underlying43 rfl (hr2.cell S20.m (i := i) (by first | omega | (simp only [List.length_set, List.length_append, List.length_replicate, List.length_singleton, List.length_cons, List.length_nil]; omega)) 0 rfl (congrArg (fun n => some (Value.slice _ n _)) hn3))) ?_)
                  refine wl_op (k := 5) (k' := 6) rfl rfl rfl (wo_run rfl rfl (run_len rfl rfl rfl rfl rfl rfl Try.underlying43) ?_)
                  refine wl_op (k := 6) (k' := 7) rfl rfl rfl (wo_run rfl rfl (run_lss rfl rfl rfl) ?_)
                  refine wl_end rfl ?_
                  refine nm_sub [(3, _), (6, _), (7, _), (8, _), (61, _)] ⟨rfl, rfl, rfl, rfl, rfl, trivial⟩ ?_
                  refine nm_thn ?_
                  refine ws_condN AlexTables_n54 AlexTables_n55 rfl rfl rfl rfl (fun hb61 => ?_) (fun hb61 => ?_)
                  · have hb61 := of_decide_eq_true hb61
                    refine ws_skip rfl ?_
                    refine nm_sub [(3, _), (6, _), (7, _), (8, _)] ⟨rfl, rfl, rfl, rfl, trivial⟩ ?_
                    refine nm_thn ?_
                    refine ws_seqN AlexTables_n56 AlexTables_n57 rfl rfl rfl ?_
                    refine ws_blockN AlexTables_n58 3 rfl rfl rfl ?_
                    refine ws_seqN AlexTables_n59 AlexTables_n60 rfl rfl rfl ?_
                    refine ws_draw rfl (by kernel_rfl) S20 16 rfl ?_
                    clear S20
                    refine wa_takeP (i := 0) (d := 64) 15 rfl (by kernel_rfl) (by kernel_rfl) (by kernel_rfl) rfl rfl rfl (fun w21 => run_move rfl rfl) ?_
                    refine wa_takeP (i := 1) (d := 65) 14 rfl (by kernel_rfl) (by kernel_rfl) (by kernel_rfl) rfl rfl rfl (fun w22 => run_move rfl rfl) ?_
                    refine wa_take (i := 2) (d := 66) 13 rfl (by kernel_rfl) (by kernel_rfl) (by kernel_rfl) rfl rfl rfl (fun M19 N14 w23 hle21 S23 => .inl (run_indexM (C := (cdV 43)) i rfl rfl rfl sl37 (by first | rfl | omega) (hr2.mono hle21) (by first | omega | (simp only [List.length_set, List.length_append, List.length_replicate, List.length_singleton, List.length_cons, List.length_nil]; omega)))) ?_
                    obtain ⟨hn4, hr7⟩ := hd1.2 i (by first | omega | (simp only [List.length_set, List.length_append, List.length_replicate, List.length_singleton, List.length_cons, List.length_nil]; omega))
                    have rmhr7 : (ga ss1 i).length * 24 ≤ 140737488355328 := hr7.room
                    have hW4 := h31.2 i (by have := h31.1; have := hd1.1; first | omega | (simp_all; omega))
                    have hW4l := hW4.1
                    refine wa_take (i := 3) (d := 67) 12 rfl (by kernel_rfl) (by kernel_rfl) (by kernel_rfl) rfl rfl rfl (fun M20 N15 w24 hle22 S24 => .inl (run_load1 rfl rfl Try.underlying43 rfl ((hr2.mono hle22).cell S24.m (i := i) (by first | omega | (simp only [List.length_set, List.length_append, List.length_replicate, List.length_singleton, List.length_cons, List.length_nil]; omega)) 0 rfl (congrArg (fun n => some (Value.slice _ n _)) hn4)))) ?_
                    refine wa_takeP (i := 4) (d := 68) 11 rfl (by kernel_rfl) (by kernel_rfl) (by kernel_rfl) rfl rfl rfl (fun w25 => run_move rfl rfl) ?_
                    refine wa_take (i := 5) (d := 69) 10 rfl (by kernel_rfl) (by kernel_rfl) (by kernel_rfl) rfl rfl rfl (fun M22 N17 w26 hle24 S26 => .inl (run_indexM (C := (cdV 22)) k rfl rfl rfl sl43 (by first | rfl | omega) (hr7.mono hle24) (by first | omega | (simp only [List.length_set, List.length_append, List.length_replicate, List.length_singleton, List.length_cons, List.length_nil]; omega)))) ?_
                    obtain ⟨hn5, hr8⟩ := hW4.2 k (by first | omega | (simp only [List.length_set, List.length_append, List.length_replicate, List.length_singleton, List.length_cons, List.length_nil]; omega))
                    have rmhr8 : (ga (ga (tblA d) i) k).length * 16 ≤ 140737488355328 := hr8.room
                    refine wa_take (i := 6) (d := 70) 9 rfl (by kernel_rfl) (by kernel_rfl) (by kernel_rfl) rfl rfl rfl (fun M23 N18 w27 hle25 S27 => .inl (run_load1 rfl rfl Try.underlying22 rfl ((hr7.mono hle25).cell S27.m (i := k) (by first | omega | (simp only [List.length_set, List.length_append, List.length_replicate, List.length_singleton, List.length_cons, List.length_nil]; omega)) 0 rfl (congrArg (fun n => some (Value.slice _ n _)) hn5)))) ?_
                    refine wa_takeP (i := 7) (d := 71) 8 rfl (by kernel_rfl) (by kernel_rfl) (by kernel_rfl) rfl rfl rfl (fun w28 => run_move rfl rfl) ?_
                    refine wa_takeP (i := 8) (d := 72) 7 rfl (by kernel_rfl) (by kernel_rfl) (by kernel_rfl) rfl rfl rfl (fun w29 => run_move rfl rfl) ?_
                    refine wa_take (i := 9) (d := 73) 6 rfl (by kernel_rfl) (by kernel_rfl) (by kernel_rfl) rfl rfl rfl (fun M26 N21 w30 hle28 S30 => .inl (run_indexM (C := (cdV 43)) i rfl rfl rfl sl37 (by first | rfl | omega) (hr3.mono hle28) (by first | omega | (simp only [List.length_set, List.length_append, List.length_replicate, List.length_singleton, List.length_cons, List.length_nil]; omega)))) ?_
                    obtain ⟨hn6, hr9⟩ := hd2.2 i (by first | omega | (simp only [List.length_set, List.length_append, List.length_replicate, List.length_singleton, List.length_cons, List.length_nil]; omega))
                    have rmhr9 : (ga ss2 i).length * 24 ≤ 140737488355328 := hr9.room
                    have hW5 := h32.2 i (by have := h32.1; have := hd2.1; first | omega | (simp_all; omega))
                    have hW5l := hW5.1
                    refine wa_take (i := 10) (d := 74) 5 rfl (by kernel_rfl) (by kernel_rfl) (by kernel_rfl) rfl rfl rfl (fun M27 N22 w31 hle29 S31 => .inl (run_load1 rfl rfl Try.underlying43 rfl ((hr3.mono hle29).cell S31.m (i := i) (by first | omega | (simp only [List.length_set, List.length_append, List.length_replicate, List.length_singleton, List.length_cons, List.length_nil]; omega)) 0 rfl (congrArg (fun n => some (Value.slice _ n _)) hn6)))) ?_
                    refine wa_takeP (i := 11) (d := 75) 4 rfl (by kernel_rfl) (by kernel_rfl) (by kernel_rfl) rfl rfl rfl (fun w32 => run_move rfl rfl) ?_
                    refine wa_take (i := 12) (d := 76) 3 rfl (by kernel_rfl) (by kernel_rfl) (by kernel_rfl) rfl rfl rfl (fun M29 N24 w33 hle31 S33 => .inl (run_indexM (C := (cdV 22)) k rfl rfl rfl sl43 (by first | rfl | omega) (hr9.mono hle31) (by first | omega | (simp only [List.length_set, List.length_append, List.length_replicate, List.length_singleton, List.length_cons, List.length_nil]; omega)))) ?_
                    obtain ⟨hn7, hr10⟩ := hW5.2 k (by first | omega | (simp only [List.length_set, List.length_append, List.length_replicate, List.length_singleton, List.length_cons, List.length_nil]; omega))
                    have rmhr10 : (ga (ga (tblA d) i) k).length * 16 ≤ 140737488355328 := hr10.room
                    refine wa_take (i := 13) (d := 77) 2 rfl (by kernel_rfl) (by kernel_rfl) (by kernel_rfl) rfl rfl rfl (fun M30 N25 w34 hle32 S34 => .inl (run_load1 rfl rfl Try.underlying22 rfl ((hr9.mono hle32).cell S34.m (i := k) (by first | omega | (simp only [List.length_set, List.length_append, List.length_replicate, List.length_singleton, List.length_cons, List.length_nil]; omega)) 0 rfl (congrArg (fun n => some (Value.slice _ n _)) hn7)))) ?_
                    refine wa_take (i := 14) (d := 78) 1 rfl (by kernel_rfl) (by kernel_rfl) (by kernel_rfl) rfl rfl rfl (fun M31 N26 w35 hle33 S35 => yield_cq rfl rfl rfl rfl rfl cf17 S35 (sameTerms_q (ga (ga (tblA d) i) k) (ga (ga (tblA d) i) k) ((hr8.mono hle33).mono (Hp.le_un _ _)) ((hr10.mono hle33).mono (Hp.le_un _ _)) (rfl) S35.lend)) ?_
                    refine wa_takeP (i := 15) (d := 79) 0 rfl (by kernel_rfl) (by kernel_rfl) (by kernel_rfl) rfl rfl rfl (fun w36 => run_not rfl rfl) ?_
                    refine wa_end (by kernel_rfl) (fun w37 S37 => ?_)
                    refine nm_sub [(3, _), (6, _), (7, _), (8, _), (79, _)] ⟨rfl, rfl, rfl, rfl, rfl, trivial⟩ ?_
                    refine nm_thn ?_
                    refine ws_condFN AlexTables_n62 rfl rfl rfl ?_
                    refine ws_skip rfl ?_
                    refine nm_blk ?_
                    refine nm_sub [(3, _), (6, _), (7, _), (8, _)] ⟨rfl, rfl, rfl, rfl, trivial⟩ ?_
                    refine nm_thn ?_
                    refine ws_region rfl ?_
                    refine wl_op (k := 0) (k' := 1) rfl rfl rfl (wo_run rfl rfl (run_move rfl rfl) ?_)
                    refine wl_op (k := 1) (k' := 2) rfl rfl rfl (wo_run rfl rfl (run_add rfl rfl rfl (by first | omega | (simp only [List.length_set, List.length_append, List.length_replicate, List.length_singleton, List.length_cons, List.length_nil]; omega))) ?_)
                    refine wl_op (k := 2) (k' := 3) rfl rfl rfl (wo_run rfl rfl (run_assign rfl rfl) ?_)
                    refine wl_end rfl ?_
                    refine nm_lp ?_
                    intro ax_ hax_
                    refine ⟨_, ?hq3m, ⟨k + 1, rfl, hax_.sub ⟨rfl, rfl, rfl, rfl, trivial⟩, S37.pick [] [] (by decide) trivial, ?hq3f0⟩⟩
                    case hq3f0 => omega
                    case hq3m => omega
                  · have hb61 := of_decide_eq_false hb61
                    refine ws_exit rfl rfl ?_
                    refine nm_blk ?_
                    refine nm_sub [(3, _), (6, _), (7, _)] ⟨rfl, rfl, rfl, trivial⟩ ?_
                    refine nm_thn ?_
                    refine ws_region rfl ?_
                    refine wl_op (k := 0) (k' := 1) rfl rfl rfl (wo_run rfl rfl (run_move rfl rfl) ?_)
                    refine wl_op (k := 1) (k' := 2) rfl rfl rfl (wo_run rfl rfl (run_add rfl rfl rfl (by first | omega | (simp only [List.length_set, List.length_append, List.length_replicate, List.length_singleton, List.length_cons, List.length_nil]; omega))) ?_)
                    refine wl_op (k := 2) (k' := 3) rfl rfl rfl (wo_run rfl rfl (run_assign rfl rfl) ?_)
                    refine wl_end rfl ?_
                    refine nm_lp ?_
                    intro ax_ hax_
                    refine ⟨_, ?hq4m, ⟨i + 1, rfl, hax_.sub ⟨rfl, rfl, rfl, trivial⟩, S20.pick [] [] (by decide) trivial, ?hq4f0⟩⟩
                    case hq4f0 => omega
                    case hq4m => omega
            · have hb41 := of_decide_eq_false hb41
              refine ws_exit rfl rfl ?_
              refine nm_sub [] trivial ?_
              refine nm_thn ?_
              refine ws_seqN AlexTables_n63 AlexTables_n64 rfl rfl rfl ?_
              refine ws_region rfl ?_
              refine wl_op (k := 0) (k' := 1) rfl rfl rfl (wo_run rfl rfl (run_assign rfl rfl) ?_)
              refine wl_end rfl ?_
              refine nm_thn ?_
              refine ws_ret hC [_] rfl rfl ⟨rfl, trivial⟩ ?_
              refine ⟨_, rfl, _, ((hle1.trans hle2).trans hle4).trans hle5, (S7.pick [] [] (by decide) trivial), ?_⟩
              show Value.bool _ = _
              refine congrArg Value.bool ?_
              first | rfl | (rw [decide_eq_true_iff]; omega) | (simp_all; done)
end Go.Proofs.Ytkcighnochjlgaa
namespace Go.Proofs.Ytkcighnochjlgaa
open Go.ChangeShapes Go.WideShapes Go.ChangeAt Go.RowKit Go.Joins Go.Deep
theorem sized_in {H : Type} {P : Program} {ts : List TypeId} {ds : List (DataW H)} (h : (DataW.weightsEach P ts ds).all (· ≤ reachBytes) = true) {j i : Nat} {t e : TypeId} {f : Field} {fs : Array Field} {parts : List (DataW H)} {elems spare : List (DataW H)}
    (ht : ts[j]? = some t) (hd : ds[j]? = some (.agg parts)) (hu : P.underlying t = some (.struct fs)) (hf : fs.toList[i]? = some f) (hp : parts[i]? = some (.slice elems spare)) (he : P.underlying f.type = some (.slice e)) :
    (elems.length + spare.length) * P.bytesOf e ≤ reachBytes := by
  have m1 := DataW.weights_mem_each (P := P) (ts := fs.toList.map (·.type)) (j := i) (t := f.type) (by rw [List.getElem?_map, hf]; rfl) hp ((elems.length + spare.length) * P.bytesOf e) (by simp [DataW.weights, he])
  have m2 := DataW.weights_mem_each (P := P) ht hd ((elems.length + spare.length) * P.bytesOf e) (by simp only [DataW.weights, hu]; exact m1)
  simpa using List.all_eq_true.1 h _ m2
theorem len5 (l : List Cr) : (l.flatMap codCr.f).length = l.length * 5 := by
  induction l with
  | nil => rfl
  | cons x l ih => rw [List.flatMap_cons, List.length_append, ih, codCr.hf, List.length_cons]; show 5 + _ = _; omega
theorem take1 {l : List Value} {j : Nat} {u : Value} (h : (l.drop j).take 1 = [u]) : l[j]? = some u := by
  have := congrArg (fun z => z[0]?) h
  simpa [List.getElem?_take, List.getElem?_drop] using this
theorem pick {α : Type} [Inhabited α] {m : Nat} {Q : Nat → α → Prop} (h : ∀ i, i < m → ∃ x, Q i x) : ∃ F : Nat → α, ∀ i, i < m → Q i (F i) :=
  ⟨fun i => if hi : i < m then (h i hi).choose else default, fun i hi => by
    show Q i (if hi : i < m then (h i hi).choose else default)
    rw [dif_pos hi]; exact (h i hi).choose_spec⟩
section
variable {H : Type} {enc : TypeId × Value → H} {w : World}
theorem f_int {n j : Nat} {cs : List Value} {y : DataW H × List MemPlace} (h : DataW.trod enc Try.prog w 0 (fun _ => true) true n 3 ((cs.drop j).take (Try.prog.cellsOf 3)) = some y) : ∃ a, cs[j]? = some (.int .i64 a) := by
  obtain ⟨a, e, _⟩ := DataW.trod_int Try.underlying3 h
  rw [show Try.prog.cellsOf 3 = 1 by kernel_rfl] at e
  exact ⟨a, take1 e⟩
theorem f_bool {n j : Nat} {cs : List Value} {y : DataW H × List MemPlace} (h : DataW.trod enc Try.prog w 0 (fun _ => true) true n 4 ((cs.drop j).take (Try.prog.cellsOf 4)) = some y) : ∃ a, cs[j]? = some (.bool a) := by
  obtain ⟨a, e, _⟩ := DataW.trod_bool Try.underlying4 h
  rw [show Try.prog.cellsOf 4 = 1 by kernel_rfl] at e
  exact ⟨a, take1 e⟩
set_option maxRecDepth 100000 in
theorem open_cr {n : Nat} {cs : List Value} {x : DataW H × List MemPlace} (h : DataW.trod enc Try.prog w 0 (fun _ => true) true n 111 cs = some x) : ∃ c : Cr, ∀ j u, j < 5 → (crF c)[j]? = some u → cs[j]? = some u := by
  obtain ⟨xs, k, _, _, _, hl, hf⟩ := DataW.trod_struct Try.underlying111 h
  match xs, hl with
  | [y0, y1, y2, y3, y4], _ =>
    have g0 := hf 0 _ rfl
    have g1 := hf 1 _ rfl
    have g2 := hf 2 _ rfl
    have g3 := hf 3 _ rfl
    have g4 := hf 4 _ rfl
    obtain ⟨n0, e0⟩ := f_int (j := 0) (y := y0) g0
    obtain ⟨n1, e1⟩ := f_int (j := 1) (y := y1) g1
    obtain ⟨n2, e2⟩ := f_int (j := 2) (y := y2) g2
    obtain ⟨n3, e3⟩ := f_int (j := 3) (y := y3) g3
    obtain ⟨n4, e4⟩ := f_bool (j := 4) (y := y4) g4
    refine ⟨⟨n0, n1, n2, n3, n4⟩, fun j u hj hu => ?_⟩
    match j, hj with
    | 0, _ => simp [crF] at hu; subst hu; exact e0
    | 1, _ => simp [crF] at hu; subst hu; exact e1
    | 2, _ => simp [crF] at hu; subst hu; exact e2
    | 3, _ => simp [crF] at hu; subst hu; exact e3
    | 4, _ => simp [crF] at hu; subst hu; exact e4
set_option maxRecDepth 100000 in
theorem open_Dg {v : Value} {d : DataW H} {p : List MemPlace} {b0 : Nat} (hv : Value.okWide Try.prog w .any b0 51 v) (h : DataW.Trod enc Try.prog w 0 (fun _ => true) true 51 v d p) (hlt : ∀ x ∈ p, x.block < w.heap.size)
    {ts : List TypeId} {ds : List (DataW H)} (hsz : (DataW.weightsEach Try.prog ts ds).all (· ≤ reachBytes) = true) {j : Nat} (hj : ts[j]? = some 51) (hd : ds[j]? = some d) :
    ∃ g : Dg, IsDg w w.heap.size v g := by
  obtain ⟨v0, v1, y0, y1, n, rfl, rfl, rfl, t0, t1⟩ := open_agg2 Try.underlying51 (by kernel_rfl) (by kernel_rfl) hv h
  obtain ⟨l, e1, _, _⟩ := DataW.trod_int Try.underlying3 t1
  injection e1 with e1
  subst e1
  have hs := fun es sp (hp : y0.1 = .slice es sp) => sized_in hsz hj hd Try.underlying51 (i := 0) rfl (by rw [List.getElem?_cons_zero, hp]) Try.underlying49
  rcases open_slice Try.underlying49 t0 with ⟨hcs, hx⟩ | ⟨a, len, cap, m, k, D, Pl, hcs, hb, hl, hm, hmm, hx, hi⟩
  · injection hcs with hcs
    subst hcs
    exact ⟨⟨[], l⟩, none, 0, rfl, Nat.le_refl _, Rd.nil_⟩
  · injection hcs with hcs
    subst hcs
    have hk : Try.prog.cellsOf 111 = 5 := by kernel_rfl
    have hby : Try.prog.bytesOf 111 = 40 := by kernel_rfl
    have hs := hs _ _ (by rw [hx])
    rw [hby] at hs
    simp only [if_true] at hmm
    subst hmm
    simp only [List.length_map, List.length_range, reachBytes] at hs
    obtain ⟨F, hF⟩ := pick (m := m) (Q := fun i (c : Cr) => ∀ j u, j < 5 → (crF c)[j]? = some u → w.cell? (a.add (i * 5 + j)) = some u) (fun i him => by
      obtain ⟨cs', hc, ht'⟩ := hi i him
      rw [hk] at hc
      obtain ⟨c, hc'⟩ := open_cr ht'
      obtain ⟨_, hcl, hat⟩ := World.cells?_some hc
      refine ⟨c, fun j u hj hu => ?_⟩
      rw [← Go.Deep.add_add, hat j hj]
      exact hc' j u hj hu)
    have hlen : ((List.range len).map F).length = len := by simp
    refine ⟨⟨(List.range len).map F, l⟩, some a, m, by rw [hlen], by rw [hlen]; exact hl, ?_⟩
    refine ⟨len5 _, by show _ * 40 ≤ _; rw [hlen]; omega, fun h0 => ?_⟩
    rw [hlen] at h0
    obtain ⟨b, off, spot⟩ := a
    have hspot : spot = none := by simpa [Addr.add] using World.cell?_spot (hF 0 (by omega) 0 _ (by omega) rfl)
    subst hspot
    refine ⟨b, off, rfl, hlt (.cell b off) (List.mem_append_left _ (by rw [hx]; exact List.mem_append_left _ (MemPlace.mem_row.2 ⟨0, by rw [hk]; omega, by simp⟩))), fun i u hu => ?_⟩
    have hil : i < len * 5 := by
      have := (List.getElem?_eq_some_iff.1 hu).1
      rw [len5, hlen] at this
      exact this
    have hu' := hu
    rw [show i = (i / 5) * 5 + i % 5 by omega] at hu'
    rw [show (5 : Nat) = codCr.k from rfl, flat_get codCr.hf (by rw [hlen]; show i / 5 < len; omega) (by show i % 5 < 5; omega)] at hu'
    have := hF (i / 5) (by omega) (i % 5) u (by omega) (by simpa [codCr] using hu')
    rw [show (i / 5) * 5 + i % 5 = i by omega] at this
    rcases Nat.eq_zero_or_pos i with h1 | h1
    · subst h1; simpa [Addr.add] using this
    · simpa [Addr.add, show ¬ i = 0 by omega] using this
end
end Go.Proofs.Ytkcighnochjlgaa
namespace Go.Proofs.Ytkcighnochjlgaa
open Go.ChangeShapes Go.WideShapes Go.ChangeAt Go.RowKit
theorem RdA.of_sl {α : Type} {C : Cd α} {w : World} {B c : Nat} {A : Option Addr} {xs : List α} (hc : xs.length ≤ c) (hk : 0 < C.k) (h : Sl w B C.k C.u8 A xs.length (xs.flatMap C.f)) : RdA C (hp w) A c xs := by
  refine ⟨hc, h.2.1, fun h0 => ?_⟩
  obtain ⟨b, off, rfl, _, hat⟩ := h.2.2 h0
  refine ⟨rfl, ?_⟩
  have hlen : 0 < (xs.flatMap C.f).length := by rw [flat_len C.hf]; exact Nat.mul_pos h0 hk
  have h1 := hat 0 _ (List.getElem?_eq_getElem hlen)
  show ∃ cs T fz, w.heap[b]? = some (.cells cs T fz) ∧ ∀ j u, (xs.flatMap C.f)[j]? = some u → cs[off + j]? = some u
  unfold World.cell? at h1
  split at h1
  · rename_i cs T fz hb
    refine ⟨cs, T, fz, hb, fun j u hu => ?_⟩
    have := hat j u hu
    rw [cell_of_row w b _ cs T fz hb] at this
    exact this
  · cases h1
theorem IsDg.rd {w : World} {B : Nat} {v : Value} {d : Dg} (h : IsDg w B v d) : ∃ A c, v = .agg [.slice A d.crs.length c, .int .i64 d.loops].toArray ∧ RdA cdCr (hp w) A c d.crs := by
  obtain ⟨A, c, rfl, hc, h⟩ := h
  exact ⟨A, c, rfl, RdA.of_sl (C := cdCr) hc (by decide) h⟩
end Go.Proofs.Ytkcighnochjlgaa
namespace Go.Proofs.Ytkcighnochjlgaa
open Go.ChangeShapes Go.WideShapes Go.ChangeAt Go.RowKit
theorem lawAlexTables (u : Value) (a : Dg) (W : World) (ha : IsDg W W.heap.size u a) :
    Calls Try.prog 7 #[u] W fun e W' => e = .returned (.bool true) ∧ Below W.heap.size W W' := by
  obtain ⟨A, c, rfl, ha'⟩ := ha.rd
  exact law_of_ct (AlexTables_t a ha' (SH.start W))
set_option maxRecDepth 100000 in
theorem alexTables_lifted (os : Os) (started : os.Started) (H : Type) (enc : TypeId × Value → H) :
    ReturnsInHanded {} Try.checked os 7 .any (Rows.alexTablesSpec.pre6 enc Try.prog Try.f7 Rows.alexTablesRow.domain false) (Rows.alexTablesSpec.post enc Try.prog Try.f7 false true false false) := by
  refine law_lift (C := Try.checked) (tb := 4) (by kernel_rfl) started (by kernel_rfl) Try.func7
    (ChangeSpec.witness6 (enc := enc) (C := Try.checked) false ⟨#[], #[.agg #[.slice none 0 0, .int .i64 0]], []⟩ 8 (by kernel_rfl) (by kernel_rfl) (by kernel_rfl) (by kernel_rfl))
    rfl (by kernel_rfl) (by kernel_rfl) rfl Try.underlying4 ?_ ?_
  · intro ds hds
    match ds, hds with
    | [d0], _ => rfl
  · intro W base args ds p hval hA _ hlt hsz
    rw [Try.params7] at hA hval hsz
    obtain ⟨v0, vs0, d0, ds0, p0, q0, hargs, rfl, rfl, h0, r0⟩ := trodAll_cons hA
    obtain ⟨rfl, rfl, rfl⟩ := trodAll_nil r0
    obtain rfl : args = #[v0] := by cases args; simp_all
    obtain ⟨a0, i0⟩ := open_Dg (hval 0 51 v0 rfl rfl) h0 (fun x hx => hlt x (by simp [hx])) hsz (j := 0) rfl rfl
    exact lawAlexTables v0 a0 W i0
theorem alexTables_holds : Rows.AlexTablesSaid :=
  OpenClaim.holds_of_wide 7 Try.f7 rfl rfl rfl rfl rfl rfl rfl ⟨rfl, rfl, rfl, rfl, rfl⟩ rfl rfl rfl rfl rfl (by kernel_rfl) Try.func7 (by kernel_rfl)
    (of_decide_eq_true (by kernel_rfl)) (by unfold Func.isWrapper; first | (rw [if_pos (by decide +kernel)]; kernel_rfl) | (rw [if_neg (by decide +kernel)]; exact ⟨rfl, rfl⟩))
    (fun os started H enc _ => alexTables_lifted os started H enc)
#print axioms alexTables_holds
end Go.Proofs.Ytkcighnochjlgaa
