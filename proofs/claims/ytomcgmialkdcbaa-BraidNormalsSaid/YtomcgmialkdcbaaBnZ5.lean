/- Part 5 of the proof of the law BraidNormals: the walks through its functions and the plain laws that they need. -/
import Derived.Test.YtomcgmialkdcbaaBnZ4
set_option linter.unusedSimpArgs false
set_option linter.unusedVariables false
namespace Go.Proofs.Ytomcgmialkdcbaa
open Go.ChangeShapes Go.WideShapes Go.ChangeAt Go.RowKit
/-- No table on the way has a word that is too long. -/
def BdW (m : Nat) (l : List Int) : Prop := ∀ k, k ≤ l.length → ∀ i, i < m → (ga (actP m (l.take k)) i).length ≤ 5800000000000
def lok (m : Nat) (l : List Int) : Prop := ∀ i, i < l.length → 1 ≤ max (ga l i) (-(ga l i)) ∧ max (ga l i) (-(ga l i)) < (m : Int)
theorem lok.ok_ {m : Nat} {l : List Int} (hm : m ≤ 6) (h : lok m l) : ∀ k, k ≤ l.length → okA m (3 ^ k) (actP m (l.take k)) ∧ redA m (actP m (l.take k))
 | 0, _ => ⟨okA.unit m hm, redA.unit m⟩
 | k + 1, hk => by
  obtain ⟨a, b⟩ := lok.ok_ hm h k (by omega)
  rw [actP_take _ _ _ (by omega), Nat.pow_succ]
  exact ⟨a.step (h k (by omega)), b.step a.1 (h k (by omega))⟩
theorem BdW.short {m : Nat} {l : List Int} (hm : m ≤ 6) (h : lok m l) (h20 : l.length ≤ 20) : BdW m l := fun k hk i hi => by
 have h1 := ((h.ok_ hm k hk).1.2 i hi).2
 have h2 : 3 ^ k ≤ 3486784401 := Nat.le_trans (Nat.pow_le_pow_right (by omega) (show k ≤ 20 by omega)) (by decide)
 omega
noncomputable def ActOfB_n0 : Code := Try.f21.body.getD .skip
noncomputable def ActOfB_n1 : Code := cL ActOfB_n0
noncomputable def ActOfB_n2 : Code := cR ActOfB_n0
noncomputable def ActOfB_n3 : Code := cL ActOfB_n2
noncomputable def ActOfB_n4 : Code := cR ActOfB_n2
noncomputable def ActOfB_n5 : Code := cL ActOfB_n4
noncomputable def ActOfB_n6 : Code := cR ActOfB_n4
noncomputable def ActOfB_n7 : Code := cL ActOfB_n5
noncomputable def ActOfB_n8 : Code := cR ActOfB_n5
noncomputable def ActOfB_n9 : Code := cL ActOfB_n8
noncomputable def ActOfB_n10 : Code := cL ActOfB_n9
noncomputable def ActOfB_n11 : Code := cL ActOfB_n10
noncomputable def ActOfB_n12 : Code := cR ActOfB_n10
noncomputable def ActOfB_n13 : Code := cL ActOfB_n11
noncomputable def ActOfB_n14 : Code := cR ActOfB_n11
noncomputable def ActOfB_n15 : Code := cL ActOfB_n14
noncomputable def ActOfB_n16 : Code := cR ActOfB_n14
noncomputable def ActOfB_n17 : Code := cL ActOfB_n12
noncomputable def ActOfB_n18 : Code := cR ActOfB_n12
noncomputable def ActOfB_n19 : Code := cL ActOfB_n17
noncomputable def ActOfB_n20 : Code := cL ActOfB_n6
noncomputable def ActOfB_n21 : Code := cR ActOfB_n6
noncomputable def ActOfB_n22 : Code := cL ActOfB_n20
noncomputable def ActOfB_n23 : Code := cR ActOfB_n20
noncomputable def ActOfB_n24 : Code := cL ActOfB_n23
noncomputable def ActOfB_n25 : Code := cL ActOfB_n24
noncomputable def ActOfB_n26 : Code := cL ActOfB_n25
noncomputable def ActOfB_n27 : Code := cR ActOfB_n25
noncomputable def ActOfB_n28 : Code := cL ActOfB_n26
noncomputable def ActOfB_n29 : Code := cR ActOfB_n26
noncomputable def ActOfB_n30 : Code := cL ActOfB_n29
noncomputable def ActOfB_n31 : Code := cR ActOfB_n29
noncomputable def ActOfB_n32 : Code := cL ActOfB_n27
noncomputable def ActOfB_n33 : Code := cR ActOfB_n27
noncomputable def ActOfB_n34 : Code := cL ActOfB_n32
noncomputable def ActOfB_n35 : Code := cL ActOfB_n34
noncomputable def ActOfB_n36 : Code := cR ActOfB_n34
noncomputable def ActOfB_n37 : Code := cL ActOfB_n36
noncomputable def ActOfB_n38 : Code := cR ActOfB_n36
noncomputable def ActOfB_n39 : Code := cL ActOfB_n38
noncomputable def ActOfB_n40 : Code := cR ActOfB_n38
noncomputable def ActOfB_n41 : Code := cL ActOfB_n40
noncomputable def ActOfB_n42 : Code := cR ActOfB_n40
noncomputable def ActOfB_n43 : Code := cL ActOfB_n41
noncomputable def ActOfB_n44 : Code := cR ActOfB_n41
noncomputable def ActOfB_n45 : Code := cL ActOfB_n42
noncomputable def ActOfB_n46 : Code := cR ActOfB_n42
noncomputable def ActOfB_n47 : Code := cL ActOfB_n21
noncomputable def ActOfB_n48 : Code := cR ActOfB_n21
set_option maxRecDepth 10000 in
theorem ActOfB_t {w : World} {M : Hp} {X : Fr} (m : Nat) (l : List Int) {lA : Option Addr} {lc : Nat} (hl : RdA cdInt (M.un X.h) lA lc l) (hm : m ≤ 6) (hwl : l.length ≤ 1000) (hwb : lok m l) (hB : BdW m l) (S : SH w M X []) : Ct Try.prog 21 [.int .i64 (m : Int), .slice lA l.length lc] w M X (TabA (actP m l)) := by
 unfold Ct
 have rmhl : l.length * 8 ≤ 140737488355328 := hl.room
 refine calls_in (b := ActOfB_n0) Try.func21 rfl Try.ntmps21 rfl (fun C hC => (ws_sub [(0, _), (1, _)] ⟨rfl, rfl, trivial⟩ (ws_seqN ActOfB_n1 ActOfB_n2 rfl rfl rfl (ws_region rfl (wla 0 1 rfl rfl rfl rfl rfl rfl rfl ?_)))))
 refine wl_end rfl (nmk [0, 1] rfl (nm_thn (ws_seqN ActOfB_n3 ActOfB_n4 rfl rfl rfl (ws_region rfl ?_))))
 refine wla 0 1 rfl rfl rfl rfl rfl rfl rfl (wl_end rfl (nm_thn (ws_seqN ActOfB_n5 ActOfB_n6 rfl rfl rfl (ws_seqN ActOfB_n7 ActOfB_n8 rfl rfl rfl ?_))))
 refine ws_region rfl (wla 0 1 rfl rfl rfl rfl rfl rfl rfl (wl_end rfl (nm_thn (ws_blockN ActOfB_n9 0 rfl rfl rfl ?_))))
 have S1 := S.nilrow (cdV 22); clear S
 refine ws_loopE (fun mx_ ax_ wx_ => ∃ (k : Nat) (tv : List SlV) (tb : List (List Int)) (vro : Value) (M1 : Hp), M.le M1 ∧ mx_ = m - k ∧ Env 75 [(0, .int .i64 (m : Int)), (1, .slice lA l.length lc), (5, vro), (6, .int .i64 ((k : Int) + 1))] ax_ ∧ SH wx_ M1 X [Rs.row (cdV 22) vro tv] ∧ k ≤ m ∧ tb = (unitA m).take k ∧ Rd2 cdInt M1 tv tb) rfl ?_ ?_
 ·intro ax_ hax_
  refine ⟨_, ⟨0, _, [], _, _, Hp.le_refl _, rfl, hax_.sub ⟨rfl, rfl, rfl, rfl, trivial⟩, S1.pick [0] [_] (by decide) ⟨rfl, trivial⟩, ?hq1f0, ?hq1f1, ?hq1f2⟩⟩
  case hq1f0 => omega
  case hq1f1 => rfl
  case hq1f2 => exact Rd2.nil_
 ·rintro m1 a1 w1 ⟨k, tv, tb, vro, M1, hle1, rfl, he1, S2, hk, htb, hdt⟩
  clear S1
  refine ws_in he1 (c := ActOfB_n10) rfl ?_
  clear he1 a1
  replace hl := hl.mono (Hp.un_mono hle1 S2.mx)
  have htl := hdt.1
  have htk : tb.length = k := by rw [htb]; simp [unitA]; omega
  refine ws_seqN ActOfB_n11 ActOfB_n12 rfl rfl rfl (ws_seqN ActOfB_n13 ActOfB_n14 rfl rfl rfl (ws_region rfl (wlm 0 1 rfl rfl rfl rfl rfl rfl rfl (wlm 1 2 rfl rfl rfl rfl rfl rfl rfl ?_))))
  refine wlo 2 3 rfl rfl rfl (wo_run rfl rfl (run_leq rfl rfl rfl) (wl_end rfl (nmk [0, 1, 5, 6, 13] rfl (nm_thn ?_))))
  refine ws_condN ActOfB_n15 ActOfB_n16 rfl rfl rfl rfl (fun hb13 => ?_) (fun hb13 => ?_)
  ·replace hb13 := of_decide_eq_true hb13
   refine ws_skip rfl (nmk [0, 1, 5, 6] rfl (nm_thn (ws_seqN ActOfB_n17 ActOfB_n18 rfl rfl rfl (ws_blockN ActOfB_n19 1 rfl rfl rfl ?_))))
   refine ws_region rfl (wlm 0 1 rfl rfl rfl rfl rfl rfl rfl (wlm 1 2 rfl rfl rfl rfl rfl rfl rfl (wlo 2 3 rfl rfl rfl (wo_buildSlice1 (C := cdInt) (l := [_]) rfl rfl rfl rfl sl22 rfl rfl rfl rfl S2 ?_))))
   intro gb1 w2 S3; clear S2
   obtain ⟨M2, hle2, S4, hr1⟩ := S3.pubbox (C := cdInt) (z := ((k : Int) + 1)) (i := 0) (H' := [_, _]) rfl rfl rfl (by decide)
   clear S3
   replace hl := hl.mono (Hp.un_mono hle2 S4.mx)
   replace hdt := hdt.mono hle2
   refine wlo 3 4 rfl rfl rfl (wo_buildSlice1 (C := (cdV 22)) (l := [_]) rfl rfl rfl rfl sl23 rfl rfl rfl rfl S4 ?_)
   intro gb2 w3 S5; clear S4
   refine wlo 4 5 rfl rfl rfl (wo_append1 (C := (cdV 22)) (i := 2) (q := 0) (⟨(some ⟨gb1, 0, none⟩), ([((k : Int) + 1)]).length, 1⟩ : SlV) rfl rfl rfl rfl rfl rfl rfl rfl sl23 S5 rfl rfl rfl (by show (_ + 1) * 24 ≤ _; first | omega | (simp only [lens]; omega)) ?_)
   intro vro1 w4 S6; clear S5
   have S7 := S6.pick [1, 2] [_, _] (by decide) ⟨rfl, rfl, trivial⟩; clear S6
   have hd1 := hdt.snoc (c := 1) hr1
   refine wla 5 6 rfl rfl rfl rfl rfl rfl rfl (wl_end rfl (nm_blk (nmk [0, 1, 5, 6] rfl (nm_thn ?_))))
   refine ws_region rfl (wlm 0 1 rfl rfl rfl rfl rfl rfl rfl (wlo 1 2 rfl rfl rfl (wo_run rfl rfl (run_add rfl rfl rfl (by first | omega | (simp only [lens]; omega))) ?_)))
   refine wla 2 3 rfl rfl rfl rfl rfl rfl rfl (wl_end rfl (nm_lp ?_))
   intro ax_ hax_
   refine ⟨_, ?hq2m, ⟨k + 1, _, (tb ++ [[((k : Int) + 1)]]), _, _, (hle1.trans hle2), rfl, hax_.sub ⟨rfl, rfl, rfl, rfl, trivial⟩, S7.pick [1] [_] (by decide) ⟨rfl, trivial⟩, ?hq2f0, ?hq2f1, ?hq2f2⟩⟩
   case hq2f0 => omega
   case hq2f1 => (rw [htb]; exact unitA_take _ _ (by omega))
   case hq2f2 => exact hd1
   case hq2m => omega
  ·replace hb13 := of_decide_eq_false hb13
   refine ws_exit rfl rfl (nmk [1, 5] rfl (nm_thn (ws_seqN ActOfB_n20 ActOfB_n21 rfl rfl rfl (ws_seqN ActOfB_n22 ActOfB_n23 rfl rfl rfl ?_))))
   refine ws_region rfl (wla 0 1 rfl rfl rfl rfl rfl rfl rfl (wl_end rfl (nm_thn (ws_blockN ActOfB_n24 2 rfl rfl rfl ?_))))
   refine ws_loopE (fun mx_ ax_ wx_ => ∃ (k2 : Nat) (b2 : Nat) (tv2 : List SlV) (tb2 : List (List Int)) (vrp : Value) (M3 : Hp), M1.le M3 ∧ mx_ = l.length - k2 ∧ Env 75 [(1, .slice lA l.length lc), (5, vrp), (7, .int .i64 (k2 : Int))] ax_ ∧ SH wx_ M3 X [Rs.row (cdV 22) vrp tv2] ∧ k2 ≤ l.length ∧ tb2 = actP m (l.take k2) ∧ okA m b2 tb2 ∧ redA m tb2 ∧ Rd2 cdInt M3 tv2 tb2) rfl ?_ ?_
   ·intro ax_ hax_
    refine ⟨_, ⟨0, 1, _, tb, _, _, Hp.le_refl _, rfl, hax_.sub ⟨rfl, rfl, rfl, trivial⟩, S2.pick [0] [_] (by decide) ⟨rfl, trivial⟩, ?hq3f0, ?hq3f1, ?hq3f2, ?hq3f3, ?hq3f4⟩⟩
    case hq3f0 => omega
    case hq3f1 => (rw [htb, show k = m by omega]; show _ = unitA m; exact List.take_of_length_le (by simp [unitA]))
    case hq3f2 => (rw [htb, show k = m by omega, List.take_of_length_le (by simp [unitA])]; exact okA.unit m (by omega))
    case hq3f3 => (rw [htb, show k = m by omega, List.take_of_length_le (by simp [unitA])]; exact redA.unit m)
    case hq3f4 => exact hdt
   ·rintro m2 a2 w5 ⟨k2, b2, tv2, tb2, vrp, M3, hle3, rfl, he2, S8, hk2, hact, hok, hred, hdt2⟩
    clear S2
    refine ws_in he2 (c := ActOfB_n25) rfl ?_
    clear he2 a2
    replace hl := hl.mono (Hp.un_mono hle3 S8.mx)
    replace hdt := hdt.mono hle3
    have htl2 := hdt2.1
    have hl2 := hok.1
    have hwk := fun h => hwb k2 h
    have hbd : ∀ i, i < m → (ga tb2 i).length ≤ 5800000000000 := by rw [hact]; exact hB k2 hk2
    refine ws_seqN ActOfB_n26 ActOfB_n27 rfl rfl rfl (ws_seqN ActOfB_n28 ActOfB_n29 rfl rfl rfl (ws_region rfl (wlm 0 1 rfl rfl rfl rfl rfl rfl rfl (wlm 1 2 rfl rfl rfl rfl rfl rfl rfl ?_))))
    refine wlo 2 3 rfl rfl rfl (wo_run rfl rfl (run_len rfl rfl rfl rfl rfl rfl Try.underlying22) (wlo 3 4 rfl rfl rfl (wo_run rfl rfl (run_lss rfl rfl rfl) (wl_end rfl (nmk [1, 5, 7, 24] rfl (nm_thn ?_))))))
    refine ws_condN ActOfB_n30 ActOfB_n31 rfl rfl rfl rfl (fun hb24 => ?_) (fun hb24 => ?_)
    ·replace hb24 := of_decide_eq_true hb24
     refine ws_skip rfl (nmk [1, 5, 7] rfl (nm_thn (ws_seqN ActOfB_n32 ActOfB_n33 rfl rfl rfl (ws_blockN ActOfB_n34 3 rfl rfl rfl ?_))))
     refine ws_seqN ActOfB_n35 ActOfB_n36 rfl rfl rfl (ws_region rfl (wlm 0 1 rfl rfl rfl rfl rfl rfl rfl (wlm 1 2 rfl rfl rfl rfl rfl rfl rfl (wlo 2 3 rfl rfl rfl (wo_run rfl rfl (run_indexM (C := cdInt) k2 rfl rfl rfl sl22 (by first | rfl | omega) hl (by first | omega | (simp only [lens]; omega))) ?_)))))
     refine wlo 3 4 rfl rfl rfl (wo_run rfl rfl (run_load1 rfl rfl Try.underlying3 rfl (hl.cell S8.um (i := k2) (by first | omega | (simp only [lens]; omega)) 0 rfl rfl)) ?_)
     refine wlo 4 5 rfl rfl rfl (wo_cq rfl rfl rfl rfl rfl rfl rfl cf15 S8 (abs_q (ga l k2) (by omega) S8.lend) ?_)
     rintro _ w6 S9 rfl; clear S8
     refine wla 5 6 rfl rfl rfl rfl rfl rfl rfl (wl_end rfl (nmk [1, 5, 7, 8] rfl (nm_thn (ws_seqN ActOfB_n37 ActOfB_n38 rfl rfl rfl ?_))))
     refine ws_eq 8 (.int .i64 (((max (ga l k2) (-(ga l k2)) - 1).toNat + 1 : Nat) : Int)) rfl (int_eq (by omega)) ?_
     have hia := hok.2 (max (ga l k2) (-(ga l k2)) - 1).toNat (by omega)
     have hib := hok.2 ((max (ga l k2) (-(ga l k2)) - 1).toNat + 1) (by omega)
     have hia9 := hred (max (ga l k2) (-(ga l k2)) - 1).toNat (by omega)
     have hib9 := (hred ((max (ga l k2) (-(ga l k2)) - 1).toNat + 1) (by omega)).inv_
     have hla := hbd (max (ga l k2) (-(ga l k2)) - 1).toNat (by omega)
     have hlb := hbd ((max (ga l k2) (-(ga l k2)) - 1).toNat + 1) (by omega)
     refine ws_draw rfl (by kernel_rfl) S9 11 rfl ?_
     clear S9
     refine wap 0 10 rfl (by kernel_rfl) rfl rfl rfl (fun w7 => run_move rfl rfl) ?_
     refine wap 1 9 rfl (by kernel_rfl) rfl rfl rfl (fun w8 => run_move rfl rfl) ?_
     refine wap 2 8 rfl (by kernel_rfl) rfl rfl rfl (fun w9 => run_sub rfl rfl rfl (by first | omega | (simp only [lens]; omega))) ?_
     refine wat 3 7 rfl (by kernel_rfl) rfl rfl rfl (fun M7 N4 w10 hle7 S13 => .inl (run_indexR (C := (cdV 22)) (i := 0) ((max (ga l k2) (-(ga l k2)) - 1).toNat) rfl rfl rfl sl23 S13.suf rfl (by first | rfl | omega) (by first | omega | (simp only [lens]; omega)))) ?_
     obtain ⟨hn1, hr2⟩ := hdt2.2 ((max (ga l k2) (-(ga l k2)) - 1).toNat) (by first | omega | (simp only [lens]; omega))
     refine wat 4 6 rfl (by kernel_rfl) rfl rfl rfl (fun M8 N5 w11 hle8 S14 => .inl (run_load1 rfl rfl Try.underlying22 rfl (S14.suf.rowc (i := 0) (e := (max (ga l k2) (-(ga l k2)) - 1).toNat) (j := 0) rfl (by first | omega | (simp only [lens]; omega)) rfl (congrArg (fun n => some (Value.slice _ n _)) hn1)))) ?_
     refine wap 5 5 rfl (by kernel_rfl) rfl rfl rfl (fun w12 => run_move rfl rfl) ?_
     refine wap 6 4 rfl (by kernel_rfl) rfl rfl rfl (fun w13 => run_move rfl rfl) ?_
     refine wat 7 3 rfl (by kernel_rfl) rfl rfl rfl (fun M11 N8 w14 hle11 S17 => .inl (run_indexR (C := (cdV 22)) (i := 0) ((max (ga l k2) (-(ga l k2)) - 1).toNat + 1) rfl rfl rfl sl23 S17.suf rfl (by first | rfl | omega) (by first | omega | (simp only [lens]; omega)))) ?_
     obtain ⟨hn2, hr3⟩ := hdt2.2 ((max (ga l k2) (-(ga l k2)) - 1).toNat + 1) (by first | omega | (simp only [lens]; omega))
     refine wat 8 2 rfl (by kernel_rfl) rfl rfl rfl (fun M12 N9 w15 hle12 S18 => .inl (run_load1 rfl rfl Try.underlying22 rfl (S18.suf.rowc (i := 0) (e := (max (ga l k2) (-(ga l k2)) - 1).toNat + 1) (j := 0) rfl (by first | omega | (simp only [lens]; omega)) rfl (congrArg (fun n => some (Value.slice _ n _)) hn2)))) ?_
     refine wap 9 1 rfl (by kernel_rfl) rfl rfl rfl (fun w16 => run_assign rfl rfl) ?_
     refine wap 10 0 rfl (by kernel_rfl) rfl rfl rfl (fun w17 => run_assign rfl rfl) ?_
     refine wa_end (by kernel_rfl) (fun w18 S21 => ?_)
     refine nmk [1, 5, 7, 8, 9, 10] rfl (nm_thn (ws_seqN ActOfB_n39 ActOfB_n40 rfl rfl rfl (ws_region rfl (wlm 0 1 rfl rfl rfl rfl rfl rfl rfl ?_))))
     refine wlm 1 2 rfl rfl rfl rfl rfl rfl rfl (wlo 2 3 rfl rfl rfl (wo_run rfl rfl (run_indexM (C := cdInt) k2 rfl rfl rfl sl22 (by first | rfl | omega) hl (by first | omega | (simp only [lens]; omega))) ?_))
     refine wlo 3 4 rfl rfl rfl (wo_run rfl rfl (run_load1 rfl rfl Try.underlying3 rfl (hl.cell S21.um (i := k2) (by first | omega | (simp only [lens]; omega)) 0 rfl rfl)) ?_)
     refine wlo 4 5 rfl rfl rfl (wo_run rfl rfl (run_gtr rfl rfl rfl) (wl_end rfl (nmk [1, 5, 7, 8, 9, 10, 45] rfl (nm_thn ?_))))
     refine ws_condN ActOfB_n41 ActOfB_n42 rfl rfl rfl rfl (fun hb45 => ?_) (fun hb45 => ?_)
     ·replace hb45 := of_decide_eq_true hb45
      refine ws_seqN ActOfB_n43 ActOfB_n44 rfl rfl rfl (ws_region rfl (wlm 0 1 rfl rfl rfl rfl rfl rfl rfl (wlm 1 2 rfl rfl rfl rfl rfl rfl rfl (wlo 2 3 rfl rfl rfl (wo_run rfl rfl (run_sub rfl rfl rfl (by first | omega | (simp only [lens]; omega))) ?_)))))
      refine wlm 3 4 rfl rfl rfl rfl rfl rfl rfl (wlm 4 5 rfl rfl rfl rfl rfl rfl rfl (wlo 5 6 rfl rfl rfl (wo_ct rfl rfl rfl rfl rfl rfl rfl cf32 S21 (glue_t (ga tb2 ((max (ga l k2) (-(ga l k2)) - 1).toNat)) (ga tb2 ((max (ga l k2) (-(ga l k2)) - 1).toNat + 1)) (hr2.mono (Hp.le_un _ _)) (hr3.mono (Hp.le_un _ _)) ((by first | exact hia.1 | exact hib.1 | exact hia.1.inv_ | exact hib.1.inv_ | exact hia.1.glu_ hib.1 | exact hib.1.inv_.glu_ hia.1)) ((by first | exact hia.1 | exact hib.1 | exact hia.1.inv_ | exact hib.1.inv_ | exact hia.1.glu_ hib.1 | exact hib.1.inv_.glu_ hia.1)) ((by have g1 := gluW_len (ga tb2 (max (ga l k2) (-(ga l k2)) - 1).toNat) (ga tb2 ((max (ga l k2) (-(ga l k2)) - 1).toNat + 1)); have g2 := gluW_len (invW (ga tb2 ((max (ga l k2) (-(ga l k2)) - 1).toNat + 1))) (ga tb2 (max (ga l k2) (-(ga l k2)) - 1).toNat); have i1 := invW_len (ga tb2 (max (ga l k2) (-(ga l k2)) - 1).toNat); have i2 := invW_len (ga tb2 ((max (ga l k2) (-(ga l k2)) - 1).toNat + 1)); omega)) S21.lend) ?_)))
      intro vw19 w19 M15 hle15 S22 hRw19; clear S21
      replace hl := hl.mono (Hp.un_mono hle15 S22.mx)
      replace hdt := hdt.mono hle15
      replace hdt2 := hdt2.mono hle15
      replace hr2 := hr2.mono hle15
      replace hr3 := hr3.mono hle15
      obtain ⟨A1, c1, rfl, hr4⟩ := hRw19
      refine wlm 6 7 rfl rfl rfl rfl rfl rfl rfl (wlo 7 8 rfl rfl rfl (wo_ct rfl rfl rfl rfl rfl rfl rfl cf16 S22 (recip_t (ga tb2 ((max (ga l k2) (-(ga l k2)) - 1).toNat)) (hr2.mono (Hp.le_un _ _)) ((hok.2 _ (by omega)).1) S22.lend) ?_))
      intro vw20 w20 M16 hle16 S23 hRw20; clear S22
      replace hl := hl.mono (Hp.un_mono hle16 S23.mx)
      replace hdt := hdt.mono hle16
      replace hdt2 := hdt2.mono hle16
      replace hr2 := hr2.mono hle16
      replace hr3 := hr3.mono hle16
      replace hr4 := hr4.mono hle16
      obtain ⟨A2, c2, rfl, hr5⟩ := hRw20
      refine wlo 8 9 rfl rfl rfl (wo_ct rfl rfl rfl rfl rfl rfl rfl cf32 S23 (glue_t (gluW (ga tb2 ((max (ga l k2) (-(ga l k2)) - 1).toNat)) (ga tb2 ((max (ga l k2) (-(ga l k2)) - 1).toNat + 1))) (invW (ga tb2 ((max (ga l k2) (-(ga l k2)) - 1).toNat))) (hr4.mono (Hp.le_un _ _)) (hr5.mono (Hp.le_un _ _)) ((by first | exact hia.1 | exact hib.1 | exact hia.1.inv_ | exact hib.1.inv_ | exact hia.1.glu_ hib.1 | exact hib.1.inv_.glu_ hia.1)) ((by first | exact hia.1 | exact hib.1 | exact hia.1.inv_ | exact hib.1.inv_ | exact hia.1.glu_ hib.1 | exact hib.1.inv_.glu_ hia.1)) ((by have g1 := gluW_len (ga tb2 (max (ga l k2) (-(ga l k2)) - 1).toNat) (ga tb2 ((max (ga l k2) (-(ga l k2)) - 1).toNat + 1)); have g2 := gluW_len (invW (ga tb2 ((max (ga l k2) (-(ga l k2)) - 1).toNat + 1))) (ga tb2 (max (ga l k2) (-(ga l k2)) - 1).toNat); have i1 := invW_len (ga tb2 (max (ga l k2) (-(ga l k2)) - 1).toNat); have i2 := invW_len (ga tb2 ((max (ga l k2) (-(ga l k2)) - 1).toNat + 1)); omega)) S23.lend) ?_)
      intro vw21 w21 M17 hle17 S24 hRw21; clear S23
      replace hl := hl.mono (Hp.un_mono hle17 S24.mx)
      replace hdt := hdt.mono hle17
      replace hdt2 := hdt2.mono hle17
      replace hr2 := hr2.mono hle17
      replace hr3 := hr3.mono hle17
      replace hr4 := hr4.mono hle17
      replace hr5 := hr5.mono hle17
      obtain ⟨A3, c3, rfl, hr6⟩ := hRw21
      refine wlo 9 10 rfl rfl rfl (wo_run rfl rfl (run_indexR (C := (cdV 22)) (i := 0) ((max (ga l k2) (-(ga l k2)) - 1).toNat) rfl rfl rfl sl23 S24 rfl (by first | rfl | omega) (by first | omega | (simp only [lens]; omega))) ?_)
      refine wlo 10 11 rfl rfl rfl (wo_storeR (C := (cdV 22)) (i := 0) (e := (max (ga l k2) (-(ga l k2)) - 1).toNat) (j := 0) (us := [_]) (H' := [_]) (⟨A3, (gluW (gluW (ga tb2 ((max (ga l k2) (-(ga l k2)) - 1).toNat)) (ga tb2 ((max (ga l k2) (-(ga l k2)) - 1).toNat + 1))) (invW (ga tb2 ((max (ga l k2) (-(ga l k2)) - 1).toNat)))).length, c3⟩ : SlV) rfl rfl S24 rfl (by first | omega | (simp only [lens]; omega)) rfl rfl rfl sz22 rfl rfl rfl rfl ?_)
      intro w22 S25; clear S24
      have hd2 := hdt2.set_ hr6 ((max (ga l k2) (-(ga l k2)) - 1).toNat) (by first | omega | (simp only [lens]; omega))
      refine wl_end rfl (nmk [1, 5, 7, 8, 9] rfl (nm_thn (ws_region rfl (wlm 0 1 rfl rfl rfl rfl rfl rfl rfl ?_))))
      refine wlm 1 2 rfl rfl rfl rfl rfl rfl rfl (wlm 2 3 rfl rfl rfl rfl rfl rfl rfl (wlo 3 4 rfl rfl rfl (wo_run rfl rfl (run_indexR (C := (cdV 22)) (i := 0) ((max (ga l k2) (-(ga l k2)) - 1).toNat + 1) rfl rfl rfl sl23 S25 rfl (by first | rfl | omega) (by first | omega | (simp only [lens]; omega))) ?_)))
      refine wlo 4 5 rfl rfl rfl (wo_storeR (C := (cdV 22)) (i := 0) (e := (max (ga l k2) (-(ga l k2)) - 1).toNat + 1) (j := 0) (us := [_]) (H' := [_]) (⟨(ga tv2 ((max (ga l k2) (-(ga l k2)) - 1).toNat)).A, (ga tb2 ((max (ga l k2) (-(ga l k2)) - 1).toNat)).length, (ga tv2 ((max (ga l k2) (-(ga l k2)) - 1).toNat)).c⟩ : SlV) rfl rfl S25 rfl (by first | omega | (simp only [lens]; omega)) rfl rfl rfl sz22 rfl rfl rfl rfl ?_)
      intro w23 S26; clear S25
      have hd3 := hd2.set_ hr2 ((max (ga l k2) (-(ga l k2)) - 1).toNat + 1) (by first | omega | (simp only [lens]; omega))
      refine wl_end rfl (nm_blk (nmk [1, 5, 7] rfl (nm_thn (ws_region rfl ?_))))
      refine wlm 0 1 rfl rfl rfl rfl rfl rfl rfl (wlo 1 2 rfl rfl rfl (wo_run rfl rfl (run_add rfl rfl rfl (by first | omega | (simp only [lens]; omega))) ?_))
      refine wla 2 3 rfl rfl rfl rfl rfl rfl rfl (wl_end rfl (nm_lp ?_))
      intro ax_ hax_
      refine ⟨_, ?hq4m, ⟨k2 + 1, b2 * 3, _, ((tb2.set ((max (ga l k2) (-(ga l k2)) - 1).toNat) (gluW (gluW (ga tb2 ((max (ga l k2) (-(ga l k2)) - 1).toNat)) (ga tb2 ((max (ga l k2) (-(ga l k2)) - 1).toNat + 1))) (invW (ga tb2 ((max (ga l k2) (-(ga l k2)) - 1).toNat))))).set ((max (ga l k2) (-(ga l k2)) - 1).toNat + 1) (ga tb2 ((max (ga l k2) (-(ga l k2)) - 1).toNat))), _, _, (((hle3.trans hle15).trans hle16).trans hle17), rfl, hax_.sub ⟨rfl, rfl, rfl, trivial⟩, S26.pick [0] [_] (by decide) ⟨rfl, trivial⟩, ?hq4f0, ?hq4f1, ?hq4f2, ?hq4f3, ?hq4f4⟩⟩
      case hq4f0 => omega
      case hq4f1 => (rw [actP_take _ _ _ (by omega), ← hact]; first | exact stepA_p hia9 (by omega) | exact stepA_n hib9 (by omega))
      case hq4f2 => (first | (rw [stepA_p hia9 (by omega)]; exact hok.step (hwb k2 (by omega))) | (rw [stepA_n hib9 (by omega)]; exact hok.step (hwb k2 (by omega))))
      case hq4f3 => (first | (rw [stepA_p hia9 (by omega)]; exact hred.step hok.1 (hwb k2 (by omega))) | (rw [stepA_n hib9 (by omega)]; exact hred.step hok.1 (hwb k2 (by omega))))
      case hq4f4 => exact hd3
      case hq4m => omega
     ·replace hb45 := of_decide_eq_false hb45
      refine ws_seqN ActOfB_n45 ActOfB_n46 rfl rfl rfl (ws_region rfl (wlm 0 1 rfl rfl rfl rfl rfl rfl rfl (wlm 1 2 rfl rfl rfl rfl rfl rfl rfl (wlo 2 3 rfl rfl rfl (wo_run rfl rfl (run_sub rfl rfl rfl (by first | omega | (simp only [lens]; omega))) ?_)))))
      refine wlm 3 4 rfl rfl rfl rfl rfl rfl rfl (wlo 4 5 rfl rfl rfl (wo_run rfl rfl (run_indexR (C := (cdV 22)) (i := 0) ((max (ga l k2) (-(ga l k2)) - 1).toNat) rfl rfl rfl sl23 S21 rfl (by first | rfl | omega) (by first | omega | (simp only [lens]; omega))) ?_))
      refine wlo 5 6 rfl rfl rfl (wo_storeR (C := (cdV 22)) (i := 0) (e := (max (ga l k2) (-(ga l k2)) - 1).toNat) (j := 0) (us := [_]) (H' := [_]) (⟨(ga tv2 ((max (ga l k2) (-(ga l k2)) - 1).toNat + 1)).A, (ga tb2 ((max (ga l k2) (-(ga l k2)) - 1).toNat + 1)).length, (ga tv2 ((max (ga l k2) (-(ga l k2)) - 1).toNat + 1)).c⟩ : SlV) rfl rfl S21 rfl (by first | omega | (simp only [lens]; omega)) rfl rfl rfl sz22 rfl rfl rfl rfl ?_)
      intro w24 S27; clear S21
      have hd4 := hdt2.set_ hr3 ((max (ga l k2) (-(ga l k2)) - 1).toNat) (by first | omega | (simp only [lens]; omega))
      refine wl_end rfl (nmk [1, 5, 7, 8, 9, 10] rfl (nm_thn (ws_region rfl (wlm 0 1 rfl rfl rfl rfl rfl rfl rfl ?_))))
      refine wlm 1 2 rfl rfl rfl rfl rfl rfl rfl (wlm 2 3 rfl rfl rfl rfl rfl rfl rfl (wlo 3 4 rfl rfl rfl (wo_ct rfl rfl rfl rfl rfl rfl rfl cf16 S27 (recip_t (ga tb2 ((max (ga l k2) (-(ga l k2)) - 1).toNat + 1)) (hr3.mono (Hp.le_un _ _)) ((hok.2 _ (by omega)).1) S27.lend) ?_)))
      intro vw25 w25 M18 hle18 S28 hRw25; clear S27
      replace hl := hl.mono (Hp.un_mono hle18 S28.mx)
      replace hdt := hdt.mono hle18
      replace hdt2 := hdt2.mono hle18
      replace hr2 := hr2.mono hle18
      replace hr3 := hr3.mono hle18
      replace hd4 := hd4.mono hle18
      obtain ⟨A4, c4, rfl, hr7⟩ := hRw25
      refine wlm 4 5 rfl rfl rfl rfl rfl rfl rfl (wlo 5 6 rfl rfl rfl (wo_ct rfl rfl rfl rfl rfl rfl rfl cf32 S28 (glue_t (invW (ga tb2 ((max (ga l k2) (-(ga l k2)) - 1).toNat + 1))) (ga tb2 ((max (ga l k2) (-(ga l k2)) - 1).toNat)) (hr7.mono (Hp.le_un _ _)) (hr2.mono (Hp.le_un _ _)) ((by first | exact hia.1 | exact hib.1 | exact hia.1.inv_ | exact hib.1.inv_ | exact hia.1.glu_ hib.1 | exact hib.1.inv_.glu_ hia.1)) ((by first | exact hia.1 | exact hib.1 | exact hia.1.inv_ | exact hib.1.inv_ | exact hia.1.glu_ hib.1 | exact hib.1.inv_.glu_ hia.1)) ((by have g1 := gluW_len (ga tb2 (max (ga l k2) (-(ga l k2)) - 1).toNat) (ga tb2 ((max (ga l k2) (-(ga l k2)) - 1).toNat + 1)); have g2 := gluW_len (invW (ga tb2 ((max (ga l k2) (-(ga l k2)) - 1).toNat + 1))) (ga tb2 (max (ga l k2) (-(ga l k2)) - 1).toNat); have i1 := invW_len (ga tb2 (max (ga l k2) (-(ga l k2)) - 1).toNat); have i2 := invW_len (ga tb2 ((max (ga l k2) (-(ga l k2)) - 1).toNat + 1)); omega)) S28.lend) ?_))
      intro vw26 w26 M19 hle19 S29 hRw26; clear S28
      replace hl := hl.mono (Hp.un_mono hle19 S29.mx)
      replace hdt := hdt.mono hle19
      replace hdt2 := hdt2.mono hle19
      replace hr2 := hr2.mono hle19
      replace hr3 := hr3.mono hle19
      replace hd4 := hd4.mono hle19
      replace hr7 := hr7.mono hle19
      obtain ⟨A5, c5, rfl, hr8⟩ := hRw26
      refine wlm 6 7 rfl rfl rfl rfl rfl rfl rfl (wlo 7 8 rfl rfl rfl (wo_ct rfl rfl rfl rfl rfl rfl rfl cf32 S29 (glue_t (gluW (invW (ga tb2 ((max (ga l k2) (-(ga l k2)) - 1).toNat + 1))) (ga tb2 ((max (ga l k2) (-(ga l k2)) - 1).toNat))) (ga tb2 ((max (ga l k2) (-(ga l k2)) - 1).toNat + 1)) (hr8.mono (Hp.le_un _ _)) (hr3.mono (Hp.le_un _ _)) ((by first | exact hia.1 | exact hib.1 | exact hia.1.inv_ | exact hib.1.inv_ | exact hia.1.glu_ hib.1 | exact hib.1.inv_.glu_ hia.1)) ((by first | exact hia.1 | exact hib.1 | exact hia.1.inv_ | exact hib.1.inv_ | exact hia.1.glu_ hib.1 | exact hib.1.inv_.glu_ hia.1)) ((by have g1 := gluW_len (ga tb2 (max (ga l k2) (-(ga l k2)) - 1).toNat) (ga tb2 ((max (ga l k2) (-(ga l k2)) - 1).toNat + 1)); have g2 := gluW_len (invW (ga tb2 ((max (ga l k2) (-(ga l k2)) - 1).toNat + 1))) (ga tb2 (max (ga l k2) (-(ga l k2)) - 1).toNat); have i1 := invW_len (ga tb2 (max (ga l k2) (-(ga l k2)) - 1).toNat); have i2 := invW_len (ga tb2 ((max (ga l k2) (-(ga l k2)) - 1).toNat + 1)); omega)) S29.lend) ?_))
      intro vw27 w27 M20 hle20 S30 hRw27; clear S29
      replace hl := hl.mono (Hp.un_mono hle20 S30.mx)
      replace hdt := hdt.mono hle20
      replace hdt2 := hdt2.mono hle20
      replace hr2 := hr2.mono hle20
      replace hr3 := hr3.mono hle20
      replace hd4 := hd4.mono hle20
      replace hr7 := hr7.mono hle20
      replace hr8 := hr8.mono hle20
      obtain ⟨A6, c6, rfl, hr9⟩ := hRw27
      refine wlo 8 9 rfl rfl rfl (wo_run rfl rfl (run_indexR (C := (cdV 22)) (i := 0) ((max (ga l k2) (-(ga l k2)) - 1).toNat + 1) rfl rfl rfl sl23 S30 rfl (by first | rfl | omega) (by first | omega | (simp only [lens]; omega))) ?_)
      refine wlo 9 10 rfl rfl rfl (wo_storeR (C := (cdV 22)) (i := 0) (e := (max (ga l k2) (-(ga l k2)) - 1).toNat + 1) (j := 0) (us := [_]) (H' := [_]) (⟨A6, (gluW (gluW (invW (ga tb2 ((max (ga l k2) (-(ga l k2)) - 1).toNat + 1))) (ga tb2 ((max (ga l k2) (-(ga l k2)) - 1).toNat))) (ga tb2 ((max (ga l k2) (-(ga l k2)) - 1).toNat + 1))).length, c6⟩ : SlV) rfl rfl S30 rfl (by first | omega | (simp only [lens]; omega)) rfl rfl rfl sz22 rfl rfl rfl rfl ?_)
      intro w28 S31; clear S30
      have hd5 := hd4.set_ hr9 ((max (ga l k2) (-(ga l k2)) - 1).toNat + 1) (by first | omega | (simp only [lens]; omega))
      refine wl_end rfl (nm_blk (nmk [1, 5, 7] rfl (nm_thn (ws_region rfl ?_))))
      refine wlm 0 1 rfl rfl rfl rfl rfl rfl rfl (wlo 1 2 rfl rfl rfl (wo_run rfl rfl (run_add rfl rfl rfl (by first | omega | (simp only [lens]; omega))) ?_))
      refine wla 2 3 rfl rfl rfl rfl rfl rfl rfl (wl_end rfl (nm_lp ?_))
      intro ax_ hax_
      refine ⟨_, ?hq5m, ⟨k2 + 1, b2 * 3, _, ((tb2.set ((max (ga l k2) (-(ga l k2)) - 1).toNat) (ga tb2 ((max (ga l k2) (-(ga l k2)) - 1).toNat + 1))).set ((max (ga l k2) (-(ga l k2)) - 1).toNat + 1) (gluW (gluW (invW (ga tb2 ((max (ga l k2) (-(ga l k2)) - 1).toNat + 1))) (ga tb2 ((max (ga l k2) (-(ga l k2)) - 1).toNat))) (ga tb2 ((max (ga l k2) (-(ga l k2)) - 1).toNat + 1)))), _, _, (((hle3.trans hle18).trans hle19).trans hle20), rfl, hax_.sub ⟨rfl, rfl, rfl, trivial⟩, S31.pick [0] [_] (by decide) ⟨rfl, trivial⟩, ?hq5f0, ?hq5f1, ?hq5f2, ?hq5f3, ?hq5f4⟩⟩
      case hq5f0 => omega
      case hq5f1 => (rw [actP_take _ _ _ (by omega), ← hact]; first | exact stepA_p hia9 (by omega) | exact stepA_n hib9 (by omega))
      case hq5f2 => (first | (rw [stepA_p hia9 (by omega)]; exact hok.step (hwb k2 (by omega))) | (rw [stepA_n hib9 (by omega)]; exact hok.step (hwb k2 (by omega))))
      case hq5f3 => (first | (rw [stepA_p hia9 (by omega)]; exact hred.step hok.1 (hwb k2 (by omega))) | (rw [stepA_n hib9 (by omega)]; exact hred.step hok.1 (hwb k2 (by omega))))
      case hq5f4 => exact hd5
      case hq5m => omega
    ·replace hb24 := of_decide_eq_false hb24
     refine ws_exit rfl rfl (nmk [5] rfl (nm_thn (ws_seqN ActOfB_n47 ActOfB_n48 rfl rfl rfl (ws_region rfl ?_))))
     refine wlm 0 1 rfl rfl rfl rfl rfl rfl rfl (wla 1 2 rfl rfl rfl rfl rfl rfl rfl (wl_end rfl (nmk [4] rfl (nm_thn ?_))))
     obtain ⟨M21, hle21, S32, ⟨A7, c7, e1, hr10⟩⟩ := S8.pubrow (i := 0) (H' := [_]) rfl rfl (by show _ * 24 ≤ _; first | omega | (simp only [lens]; omega))
     clear S8; subst e1
     replace hl := hl.mono (Hp.un_mono hle21 S32.mx)
     replace hdt := hdt.mono hle21
     replace hdt2 := hdt2.mono hle21
     refine ws_ret hC [_] rfl rfl ⟨rfl, trivial⟩ ?_
     refine ⟨_, rfl, _, (hle1.trans hle3).trans hle21, (S32.pick [] [] (by decide) trivial), ?_⟩
     obtain rfl : k2 = l.length := by omega
     have e : tb2 = actP m l := by rw [hact, List.take_length]
     subst e
     exact ⟨_, _, _, rfl, hr10, hdt2⟩
noncomputable def SameActs_n0 : Code := Try.f10.body.getD .skip
noncomputable def SameActs_n1 : Code := cL SameActs_n0
noncomputable def SameActs_n2 : Code := cR SameActs_n0
noncomputable def SameActs_n3 : Code := cL SameActs_n2
noncomputable def SameActs_n4 : Code := cR SameActs_n2
noncomputable def SameActs_n5 : Code := cL SameActs_n4
noncomputable def SameActs_n6 : Code := cR SameActs_n4
noncomputable def SameActs_n7 : Code := cL SameActs_n5
noncomputable def SameActs_n8 : Code := cR SameActs_n5
noncomputable def SameActs_n9 : Code := cL SameActs_n8
noncomputable def SameActs_n10 : Code := cL SameActs_n9
noncomputable def SameActs_n11 : Code := cL SameActs_n10
noncomputable def SameActs_n12 : Code := cR SameActs_n10
noncomputable def SameActs_n13 : Code := cL SameActs_n11
noncomputable def SameActs_n14 : Code := cR SameActs_n11
noncomputable def SameActs_n15 : Code := cL SameActs_n14
noncomputable def SameActs_n16 : Code := cR SameActs_n14
noncomputable def SameActs_n17 : Code := cL SameActs_n12
noncomputable def SameActs_n18 : Code := cR SameActs_n12
noncomputable def SameActs_n19 : Code := cL SameActs_n17
noncomputable def SameActs_n20 : Code := cL SameActs_n19
noncomputable def SameActs_n21 : Code := cR SameActs_n19
noncomputable def SameActs_n22 : Code := cL SameActs_n20
noncomputable def SameActs_n23 : Code := cR SameActs_n20
noncomputable def SameActs_n24 : Code := cL SameActs_n23
noncomputable def SameActs_n25 : Code := cR SameActs_n23
noncomputable def SameActs_n26 : Code := cL SameActs_n24
noncomputable def SameActs_n27 : Code := cR SameActs_n24
noncomputable def SameActs_n28 : Code := cL SameActs_n21
noncomputable def SameActs_n29 : Code := cR SameActs_n21
noncomputable def SameActs_n30 : Code := cL SameActs_n29
noncomputable def SameActs_n31 : Code := cL SameActs_n30
noncomputable def SameActs_n32 : Code := cL SameActs_n31
noncomputable def SameActs_n33 : Code := cR SameActs_n31
noncomputable def SameActs_n34 : Code := cL SameActs_n32
noncomputable def SameActs_n35 : Code := cR SameActs_n32
noncomputable def SameActs_n36 : Code := cL SameActs_n35
noncomputable def SameActs_n37 : Code := cR SameActs_n35
noncomputable def SameActs_n38 : Code := cL SameActs_n33
noncomputable def SameActs_n39 : Code := cR SameActs_n33
noncomputable def SameActs_n40 : Code := cL SameActs_n38
noncomputable def SameActs_n41 : Code := cL SameActs_n40
noncomputable def SameActs_n42 : Code := cR SameActs_n40
noncomputable def SameActs_n43 : Code := cL SameActs_n42
noncomputable def SameActs_n44 : Code := cR SameActs_n42
noncomputable def SameActs_n45 : Code := cL SameActs_n43
noncomputable def SameActs_n46 : Code := cR SameActs_n43
noncomputable def SameActs_n47 : Code := cL SameActs_n6
noncomputable def SameActs_n48 : Code := cR SameActs_n6
set_option maxRecDepth 10000 in
theorem SameActs_t {w : World} {M : Hp} {X : Fr} (m : Nat) (p : List Int) {pA : Option Addr} {pc : Nat} (q : List Int) {qA : Option Addr} {qc : Nat} (hp : RdA cdInt (M.un X.h) pA pc p) (hq : RdA cdInt (M.un X.h) qA qc q) (hm : m ≤ 6) (hpl : p.length ≤ 1000) (hql : q.length ≤ 1000) (hwp : lok m p) (hwq : lok m q) (hBp : BdW m p) (hBq : BdW m q) (S : SH w M X []) : Ct Try.prog 10 [.int .i64 (m : Int), .slice pA p.length pc, .slice qA q.length qc] w M X (fun u _ => u = .bool (decide (actP m p = actP m q))) := by
 unfold Ct
 have rmhp : p.length * 8 ≤ 140737488355328 := hp.room
 have rmhq : q.length * 8 ≤ 140737488355328 := hq.room
 have hap := (hwp.ok_ hm p.length (Nat.le_refl _)).1.1
 have haq := (hwq.ok_ hm q.length (Nat.le_refl _)).1.1
 rw [List.take_length] at hap haq
 refine calls_in (b := SameActs_n0) Try.func10 rfl Try.ntmps10 rfl (fun C hC => (ws_sub [(0, _), (1, _), (2, _)] ⟨rfl, rfl, rfl, trivial⟩ (ws_seqN SameActs_n1 SameActs_n2 rfl rfl rfl (ws_region rfl (wla 0 1 rfl rfl rfl rfl rfl rfl rfl ?_)))))
 refine wl_end rfl (nmk [0, 1, 2] rfl (nm_thn (ws_seqN SameActs_n3 SameActs_n4 rfl rfl rfl (ws_region rfl ?_))))
 refine wlm 0 1 rfl rfl rfl rfl rfl rfl rfl (wlm 1 2 rfl rfl rfl rfl rfl rfl rfl (wlo 2 3 rfl rfl rfl (wo_ct rfl rfl rfl rfl rfl rfl rfl cf21 S (ActOfB_t m p (hp.mono S.un_XH) (hm) ((by omega)) (hwp) (hBp) S.lend) ?_)))
 intro vw1 w1 M1 hle1 S1 hRw1; clear S
 replace hp := hp.mono (Hp.un_mono hle1 S1.mx)
 replace hq := hq.mono (Hp.un_mono hle1 S1.mx)
 obtain ⟨A1, c1, vs1, rfl, hr1, hd1⟩ := hRw1
 refine wlm 3 4 rfl rfl rfl rfl rfl rfl rfl (wlm 4 5 rfl rfl rfl rfl rfl rfl rfl (wlo 5 6 rfl rfl rfl (wo_ct rfl rfl rfl rfl rfl rfl rfl cf21 S1 (ActOfB_t m q (hq.mono S1.un_XH) (hm) ((by omega)) (hwq) (hBq) S1.lend) ?_)))
 intro vw2 w2 M2 hle2 S2 hRw2; clear S1
 replace hp := hp.mono (Hp.un_mono hle2 S2.mx)
 replace hq := hq.mono (Hp.un_mono hle2 S2.mx)
 replace hr1 := hr1.mono hle2
 replace hd1 := hd1.mono hle2
 obtain ⟨A2, c2, vs2, rfl, hr2, hd2⟩ := hRw2
 refine wla 6 7 rfl rfl rfl rfl rfl rfl rfl (wla 7 8 rfl rfl rfl rfl rfl rfl rfl (wl_end rfl (nmk [0, 7, 8] rfl (nm_thn ?_))))
 refine ws_seqN SameActs_n5 SameActs_n6 rfl rfl rfl (ws_seqN SameActs_n7 SameActs_n8 rfl rfl rfl ?_)
 have hva := hd1.1
 have hvb := hd2.1
 refine ws_region rfl (wla 0 1 rfl rfl rfl rfl rfl rfl rfl (wl_end rfl (nm_thn (ws_blockN SameActs_n9 0 rfl rfl rfl ?_))))
 refine ws_loopE (fun mx_ ax_ wx_ => ∃ (i : Nat), mx_ = m - i ∧ Env 57 [(0, .int .i64 (m : Int)), (7, .slice A1 vs1.length c1), (8, .slice A2 vs2.length c2), (9, .int .i64 (i : Int))] ax_ ∧ SH wx_ M2 X [] ∧ i ≤ m ∧ (∀ j, j < i → ga (actP m p) j = ga (actP m q) j)) rfl ?_ ?_
 ·intro ax_ hax_
  refine ⟨_, ⟨0, rfl, hax_.sub ⟨rfl, rfl, rfl, rfl, trivial⟩, S2.pick [] [] (by decide) trivial, ?hq1f0, ?hq1f1⟩⟩
  case hq1f0 => omega
  case hq1f1 => (intro j hj; omega)
 ·rintro m1 a1 w3 ⟨i, rfl, he1, S3, hi, hj⟩
  clear S2
  refine ws_in he1 (c := SameActs_n10) rfl ?_
  clear he1 a1
  refine ws_seqN SameActs_n11 SameActs_n12 rfl rfl rfl (ws_seqN SameActs_n13 SameActs_n14 rfl rfl rfl (ws_region rfl (wlm 0 1 rfl rfl rfl rfl rfl rfl rfl (wlm 1 2 rfl rfl rfl rfl rfl rfl rfl ?_))))
  refine wlo 2 3 rfl rfl rfl (wo_run rfl rfl (run_lss rfl rfl rfl) (wl_end rfl (nmk [0, 7, 8, 9, 19] rfl (nm_thn ?_))))
  refine ws_condN SameActs_n15 SameActs_n16 rfl rfl rfl rfl (fun hb19 => ?_) (fun hb19 => ?_)
  ·replace hb19 := of_decide_eq_true hb19
   refine ws_skip rfl (nmk [0, 7, 8, 9] rfl (nm_thn (ws_seqN SameActs_n17 SameActs_n18 rfl rfl rfl (ws_blockN SameActs_n19 1 rfl rfl rfl ?_))))
   refine ws_seqN SameActs_n20 SameActs_n21 rfl rfl rfl (ws_seqN SameActs_n22 SameActs_n23 rfl rfl rfl (ws_draw rfl (by kernel_rfl) S3 11 rfl ?_))
   clear S3
   refine wap 0 10 rfl (by kernel_rfl) rfl rfl rfl (fun w4 => run_move rfl rfl) ?_
   refine wap 1 9 rfl (by kernel_rfl) rfl rfl rfl (fun w5 => run_move rfl rfl) ?_
   refine wat 2 8 rfl (by kernel_rfl) rfl rfl rfl (fun M5 N3 w6 hle6 S6 => .inl (run_indexM (C := (cdV 22)) i rfl rfl rfl sl23 (by first | rfl | omega) (hr1.mono hle6) (by first | omega | (simp only [lens]; omega)))) ?_
   obtain ⟨hn1, hr3⟩ := hd1.2 i (by first | omega | (simp only [lens]; omega))
   have rmhr3 : (ga (actP m p) i).length * 8 ≤ 140737488355328 := hr3.room
   refine wat 3 7 rfl (by kernel_rfl) rfl rfl rfl (fun M6 N4 w7 hle7 S7 => .inl (run_load1 rfl rfl Try.underlying22 rfl ((hr1.mono hle7).cell S7.m (i := i) (by first | omega | (simp only [lens]; omega)) 0 rfl (congrArg (fun n => some (Value.slice _ n _)) hn1)))) ?_
   refine wat 4 6 rfl (by kernel_rfl) rfl rfl rfl (fun M7 N5 w8 hle8 S8 => .inl (run_len rfl rfl rfl rfl rfl rfl Try.underlying22)) ?_
   refine wap 5 5 rfl (by kernel_rfl) rfl rfl rfl (fun w9 => run_move rfl rfl) ?_
   refine wap 6 4 rfl (by kernel_rfl) rfl rfl rfl (fun w10 => run_move rfl rfl) ?_
   refine wat 7 3 rfl (by kernel_rfl) rfl rfl rfl (fun M10 N8 w11 hle11 S11 => .inl (run_indexM (C := (cdV 22)) i rfl rfl rfl sl23 (by first | rfl | omega) (hr2.mono hle11) (by first | omega | (simp only [lens]; omega)))) ?_
   obtain ⟨hn2, hr4⟩ := hd2.2 i (by first | omega | (simp only [lens]; omega))
   have rmhr4 : (ga (actP m q) i).length * 8 ≤ 140737488355328 := hr4.room
   refine wat 8 2 rfl (by kernel_rfl) rfl rfl rfl (fun M11 N9 w12 hle12 S12 => .inl (run_load1 rfl rfl Try.underlying22 rfl ((hr2.mono hle12).cell S12.m (i := i) (by first | omega | (simp only [lens]; omega)) 0 rfl (congrArg (fun n => some (Value.slice _ n _)) hn2)))) ?_
   refine wat 9 1 rfl (by kernel_rfl) rfl rfl rfl (fun M12 N10 w13 hle13 S13 => .inl (run_len rfl rfl rfl rfl rfl rfl Try.underlying22)) ?_
   refine wap 10 0 rfl (by kernel_rfl) rfl rfl rfl (fun w14 => run_neq rfl rfl rfl) ?_
   refine wa_end (by kernel_rfl) (fun w15 S15 => ?_)
   refine nmk [0, 7, 8, 9, 32] rfl (nm_thn ?_)
   refine ws_condN SameActs_n24 SameActs_n25 rfl rfl rfl rfl (fun hb32 => ?_) (fun hb32 => ?_)
   ·replace hb32 := of_decide_eq_true hb32
    refine ws_seqN SameActs_n26 SameActs_n27 rfl rfl rfl (ws_region rfl (wla 0 1 rfl rfl rfl rfl rfl rfl rfl (wl_end rfl (nmk [6] rfl ?_))))
    refine nm_thn (ws_ret hC [_] rfl rfl ⟨rfl, trivial⟩ ?_)
    refine ⟨_, rfl, _, hle1.trans hle2, (S15.pick [] [] (by decide) trivial), ?_⟩
    show Value.bool _ = Value.bool _
    refine congrArg Value.bool ?_
    first | exact (decide_eq_true (ga_ext (by omega) fun x hx => hj x (by omega))).symm | exact (decide_eq_false (fun e => by (have h9 : (ga (actP m p) i).length = (ga (actP m q) i).length := (by rw [e])); omega)).symm | exact (decide_eq_false (fun e => by (have h9 : ga (ga (actP m p) i) k = ga (ga (actP m q) i) k := (by rw [e])); omega)).symm
   ·replace hb32 := of_decide_eq_false hb32
    refine ws_skip rfl (nmk [0, 7, 8, 9] rfl (nm_thn (ws_seqN SameActs_n28 SameActs_n29 rfl rfl rfl (ws_region rfl ?_))))
    refine wla 0 1 rfl rfl rfl rfl rfl rfl rfl (wl_end rfl (nm_thn (ws_blockN SameActs_n30 2 rfl rfl rfl ?_)))
    refine ws_loopE (fun mx_ ax_ wx_ => ∃ (k : Nat), mx_ = (ga (actP m p) i).length - k ∧ Env 57 [(0, .int .i64 (m : Int)), (7, .slice A1 vs1.length c1), (8, .slice A2 vs2.length c2), (9, .int .i64 (i : Int)), (10, .int .i64 (k : Int))] ax_ ∧ SH wx_ M2 X [] ∧ k ≤ (ga (actP m p) i).length ∧ (∀ x, x < k → ga (ga (actP m p) i) x = ga (ga (actP m q) i) x)) rfl ?_ ?_
    ·intro ax_ hax_
     refine ⟨_, ⟨0, rfl, hax_.sub ⟨rfl, rfl, rfl, rfl, rfl, trivial⟩, S15.pick [] [] (by decide) trivial, ?hq2f0, ?hq2f1⟩⟩
     case hq2f0 => omega
     case hq2f1 => (intro x hx; omega)
    ·rintro m2 a2 w16 ⟨k, rfl, he2, S16, hk, hk2⟩
     clear S15
     refine ws_in he2 (c := SameActs_n31) rfl ?_
     clear he2 a2
     refine ws_seqN SameActs_n32 SameActs_n33 rfl rfl rfl (ws_seqN SameActs_n34 SameActs_n35 rfl rfl rfl (ws_region rfl (wlm 0 1 rfl rfl rfl rfl rfl rfl rfl (wlm 1 2 rfl rfl rfl rfl rfl rfl rfl ?_))))
     refine wlm 2 3 rfl rfl rfl rfl rfl rfl rfl (wlo 3 4 rfl rfl rfl (wo_run rfl rfl (run_indexM (C := (cdV 22)) i rfl rfl rfl sl23 (by first | rfl | omega) hr1 (by first | omega | (simp only [lens]; omega))) ?_))
     obtain ⟨hn3, hr5⟩ := hd1.2 i (by first | omega | (simp only [lens]; omega))
     have rmhr5 : (ga (actP m p) i).length * 8 ≤ 140737488355328 := hr5.room
     refine wlo 4 5 rfl rfl rfl (wo_run rfl rfl (run_load1 rfl rfl Try.underlying22 rfl (hr1.cell S16.m (i := i) (by first | omega | (simp only [lens]; omega)) 0 rfl (congrArg (fun n => some (Value.slice _ n _)) hn3))) ?_)
     refine wlo 5 6 rfl rfl rfl (wo_run rfl rfl (run_len rfl rfl rfl rfl rfl rfl Try.underlying22) (wlo 6 7 rfl rfl rfl (wo_run rfl rfl (run_lss rfl rfl rfl) (wl_end rfl (nmk [0, 7, 8, 9, 10, 39] rfl (nm_thn ?_))))))
     refine ws_condN SameActs_n36 SameActs_n37 rfl rfl rfl rfl (fun hb39 => ?_) (fun hb39 => ?_)
     ·replace hb39 := of_decide_eq_true hb39
      refine ws_skip rfl (nmk [0, 7, 8, 9, 10] rfl (nm_thn (ws_seqN SameActs_n38 SameActs_n39 rfl rfl rfl (ws_blockN SameActs_n40 3 rfl rfl rfl ?_))))
      refine ws_seqN SameActs_n41 SameActs_n42 rfl rfl rfl (ws_draw rfl (by kernel_rfl) S16 15 rfl ?_)
      clear S16
      refine wap 0 14 rfl (by kernel_rfl) rfl rfl rfl (fun w17 => run_move rfl rfl) ?_
      refine wap 1 13 rfl (by kernel_rfl) rfl rfl rfl (fun w18 => run_move rfl rfl) ?_
      refine wat 2 12 rfl (by kernel_rfl) rfl rfl rfl (fun M16 N14 w19 hle18 S19 => .inl (run_indexM (C := (cdV 22)) i rfl rfl rfl sl23 (by first | rfl | omega) (hr1.mono hle18) (by first | omega | (simp only [lens]; omega)))) ?_
      obtain ⟨hn4, hr6⟩ := hd1.2 i (by first | omega | (simp only [lens]; omega))
      have rmhr6 : (ga (actP m p) i).length * 8 ≤ 140737488355328 := hr6.room
      refine wat 3 11 rfl (by kernel_rfl) rfl rfl rfl (fun M17 N15 w20 hle19 S20 => .inl (run_load1 rfl rfl Try.underlying22 rfl ((hr1.mono hle19).cell S20.m (i := i) (by first | omega | (simp only [lens]; omega)) 0 rfl (congrArg (fun n => some (Value.slice _ n _)) hn4)))) ?_
      refine wap 4 10 rfl (by kernel_rfl) rfl rfl rfl (fun w21 => run_move rfl rfl) ?_
      refine wat 5 9 rfl (by kernel_rfl) rfl rfl rfl (fun M19 N17 w22 hle21 S22 => .inl (run_indexM (C := cdInt) k rfl rfl rfl sl22 (by first | rfl | omega) (hr6.mono hle21) (by first | omega | (simp only [lens]; omega)))) ?_
      refine wat 6 8 rfl (by kernel_rfl) rfl rfl rfl (fun M20 N18 w23 hle22 S23 => .inl (run_load1 rfl rfl Try.underlying3 rfl ((hr6.mono hle22).cell S23.m (i := k) (by first | omega | (simp only [lens]; omega)) 0 rfl rfl))) ?_
      refine wap 7 7 rfl (by kernel_rfl) rfl rfl rfl (fun w24 => run_move rfl rfl) ?_
      refine wap 8 6 rfl (by kernel_rfl) rfl rfl rfl (fun w25 => run_move rfl rfl) ?_
      refine wat 9 5 rfl (by kernel_rfl) rfl rfl rfl (fun M23 N21 w26 hle25 S26 => .inl (run_indexM (C := (cdV 22)) i rfl rfl rfl sl23 (by first | rfl | omega) (hr2.mono hle25) (by first | omega | (simp only [lens]; omega)))) ?_
      obtain ⟨hn5, hr7⟩ := hd2.2 i (by first | omega | (simp only [lens]; omega))
      have rmhr7 : (ga (actP m q) i).length * 8 ≤ 140737488355328 := hr7.room
      refine wat 10 4 rfl (by kernel_rfl) rfl rfl rfl (fun M24 N22 w27 hle26 S27 => .inl (run_load1 rfl rfl Try.underlying22 rfl ((hr2.mono hle26).cell S27.m (i := i) (by first | omega | (simp only [lens]; omega)) 0 rfl (congrArg (fun n => some (Value.slice _ n _)) hn5)))) ?_
      refine wap 11 3 rfl (by kernel_rfl) rfl rfl rfl (fun w28 => run_move rfl rfl) ?_
      refine wat 12 2 rfl (by kernel_rfl) rfl rfl rfl (fun M26 N24 w29 hle28 S29 => .inl (run_indexM (C := cdInt) k rfl rfl rfl sl22 (by first | rfl | omega) (hr7.mono hle28) (by first | omega | (simp only [lens]; omega)))) ?_
      refine wat 13 1 rfl (by kernel_rfl) rfl rfl rfl (fun M27 N25 w30 hle29 S30 => .inl (run_load1 rfl rfl Try.underlying3 rfl ((hr7.mono hle29).cell S30.m (i := k) (by first | omega | (simp only [lens]; omega)) 0 rfl rfl))) ?_
      refine wap 14 0 rfl (by kernel_rfl) rfl rfl rfl (fun w31 => run_neq rfl rfl rfl) ?_
      refine wa_end (by kernel_rfl) (fun w32 S32 => ?_)
      refine nmk [0, 7, 8, 9, 10, 56] rfl (nm_thn ?_)
      refine ws_condN SameActs_n43 SameActs_n44 rfl rfl rfl rfl (fun hb56 => ?_) (fun hb56 => ?_)
      ·replace hb56 := of_decide_eq_true hb56
       refine ws_seqN SameActs_n45 SameActs_n46 rfl rfl rfl (ws_region rfl (wla 0 1 rfl rfl rfl rfl rfl rfl rfl (wl_end rfl (nmk [6] rfl ?_))))
       refine nm_thn (ws_ret hC [_] rfl rfl ⟨rfl, trivial⟩ ?_)
       refine ⟨_, rfl, _, hle1.trans hle2, (S32.pick [] [] (by decide) trivial), ?_⟩
       show Value.bool _ = Value.bool _
       refine congrArg Value.bool ?_
       first | exact (decide_eq_true (ga_ext (by omega) fun x hx => hj x (by omega))).symm | exact (decide_eq_false (fun e => by (have h9 : (ga (actP m p) i).length = (ga (actP m q) i).length := (by rw [e])); omega)).symm | exact (decide_eq_false (fun e => by (have h9 : ga (ga (actP m p) i) k = ga (ga (actP m q) i) k := (by rw [e])); omega)).symm
      ·replace hb56 := of_decide_eq_false hb56
       refine ws_skip rfl (nm_blk (nmk [0, 7, 8, 9, 10] rfl (nm_thn (ws_region rfl ?_))))
       refine wlm 0 1 rfl rfl rfl rfl rfl rfl rfl (wlo 1 2 rfl rfl rfl (wo_run rfl rfl (run_add rfl rfl rfl (by first | omega | (simp only [lens]; omega))) ?_))
       refine wla 2 3 rfl rfl rfl rfl rfl rfl rfl (wl_end rfl (nm_lp ?_))
       intro ax_ hax_
       refine ⟨_, ?hq3m, ⟨k + 1, rfl, hax_.sub ⟨rfl, rfl, rfl, rfl, rfl, trivial⟩, S32.pick [] [] (by decide) trivial, ?hq3f0, ?hq3f1⟩⟩
       case hq3f0 => omega
       case hq3f1 => (intro x hx; by_cases c : x = k; (subst c; omega); exact hk2 x (by omega))
       case hq3m => omega
     ·replace hb39 := of_decide_eq_false hb39
      refine ws_exit rfl rfl (nm_blk (nmk [0, 7, 8, 9] rfl (nm_thn (ws_region rfl ?_))))
      refine wlm 0 1 rfl rfl rfl rfl rfl rfl rfl (wlo 1 2 rfl rfl rfl (wo_run rfl rfl (run_add rfl rfl rfl (by first | omega | (simp only [lens]; omega))) ?_))
      refine wla 2 3 rfl rfl rfl rfl rfl rfl rfl (wl_end rfl (nm_lp ?_))
      intro ax_ hax_
      refine ⟨_, ?hq4m, ⟨i + 1, rfl, hax_.sub ⟨rfl, rfl, rfl, rfl, trivial⟩, S16.pick [] [] (by decide) trivial, ?hq4f0, ?hq4f1⟩⟩
      case hq4f0 => omega
      case hq4f1 => (intro j hj2; by_cases c : j = i; (subst c; exact ga_ext (by omega) fun x hx => hk2 x (by omega)); exact hj j (by omega))
      case hq4m => omega
  ·replace hb19 := of_decide_eq_false hb19
   refine ws_exit rfl rfl (nm_sub [] trivial (nm_thn (ws_seqN SameActs_n47 SameActs_n48 rfl rfl rfl (ws_region rfl ?_))))
   refine wla 0 1 rfl rfl rfl rfl rfl rfl rfl (wl_end rfl (nm_thn (ws_ret hC [_] rfl rfl ⟨rfl, trivial⟩ ?_)))
   refine ⟨_, rfl, _, hle1.trans hle2, (S3.pick [] [] (by decide) trivial), ?_⟩
   show Value.bool _ = Value.bool _
   refine congrArg Value.bool ?_
   first | exact (decide_eq_true (ga_ext (by omega) fun x hx => hj x (by omega))).symm | exact (decide_eq_false (fun e => by (have h9 : (ga (actP m p) i).length = (ga (actP m q) i).length := (by rw [e])); omega)).symm | exact (decide_eq_false (fun e => by (have h9 : ga (ga (actP m p) i) k = ga (ga (actP m q) i) k := (by rw [e])); omega)).symm
end Go.Proofs.Ytomcgmialkdcbaa
namespace Go.Proofs.Ytomcgmialkdcbaa
open Go.RowKit
open Wd
def wl (x : Wd) : Nat := x.1.length
theorem wl_mul (x y : Wd) : wl (x * y) ≤ wl x + wl y := len_mul x y
theorem wl_inv (x : Wd) : wl (inv x) = wl x := len_inv x
theorem wl_one : wl one = 0 := rfl
/-- Costs of the places where P turns. -/
def bs (c : Nat → Nat) (P : Nat → Bool) : Nat → Nat → Nat
  | _, 0 => 0
  | a, m + 1 => (if P a = P (a + 1) then 0 else c a) + bs c P (a + 1) m
theorem bs_snoc (c : Nat → Nat) (P : Nat → Bool) : ∀ m a, bs c P a (m + 1) = bs c P a m + (if P (a + m) = P (a + m + 1) then 0 else c (a + m))
  | 0, a => by show _ + 0 = 0 + _; rw [Nat.add_zero, Nat.zero_add]; rfl
  | m + 1, a => by
    have ih := bs_snoc c P m (a + 1)
    rw [bs, ih, bs, show a + 1 + m = a + (m + 1) by omega]
    omega
section
variable {n : Nat} {T U : Nat → Wd}
theorem wl_suf_go (P : Nat → Bool) (T : Nat → Wd) : ∀ m, m ≤ n → ∃ G, pr T P (n + 1 - m) m = (if P (n + 1 - m) then suf n T (n - m) else one) * G ∧ wl G ≤ bs (fun i => wl (suf n T i)) P (n + 1 - m) m
  | 0, _ => ⟨one, by rw [show suf n T (n - 0) = one from suf_n n T, ite_self]; rfl, Nat.zero_le _⟩
  | m + 1, h => by
    obtain ⟨G, e, hG⟩ := wl_suf_go P T m (by omega)
    obtain ⟨a, ha⟩ : ∃ a, n - m = a := ⟨_, rfl⟩
    have h1 : n + 1 - (m + 1) = a := by omega
    have h2 : n + 1 - m = a + 1 := by omega
    have h3 : n - (m + 1) = a - 1 := by omega
    have hs : suf n T (a - 1) = T a * suf n T a := by
      have := suf_step (n := n) (k := a - 1) (by omega) T
      rwa [show a - 1 + 1 = a by omega] at this
    rw [h2] at e hG
    rw [h1, h3, pr, e]
    rw [ha]
    show ∃ G', _ ∧ wl G' ≤ (if P a = P (a + 1) then 0 else wl (suf n T a)) + bs _ P (a + 1) m
    have g1 := wl_mul (suf n T a) G
    have g2 := wl_mul (inv (suf n T a)) G
    rw [wl_inv] at g2
    cases hp : P a <;> cases hq : P (a + 1)
    · exact ⟨G, by simp only [Bool.false_eq_true, if_false, one_mul], by simpa using hG⟩
    · refine ⟨suf n T a * G, by simp only [Bool.false_eq_true, if_false, if_true, one_mul], ?_⟩
      rw [if_neg (by decide)]; omega
    · refine ⟨inv (suf n T a) * G, by simp only [Bool.false_eq_true, if_false, if_true, one_mul, hs, assoc, mul_inv_c], ?_⟩
      rw [if_neg (by decide)]; omega
    · exact ⟨G, by simp only [if_true, hs, assoc], by simpa using hG⟩
theorem wl_suf (P : Nat → Bool) (T : Nat → Wd) : wl (pr T P 1 n) ≤ wl (suf n T 0) + bs (fun i => wl (suf n T i)) P 1 n := by
  obtain ⟨G, e, hG⟩ := wl_suf_go P T n (Nat.le_refl _)
  rw [show n + 1 - n = 1 by omega, Nat.sub_self] at e
  rw [show n + 1 - n = 1 by omega] at hG
  rw [e]
  have := wl_mul (if P 1 = true then suf n T 0 else one) G
  split at this
  · rename_i h; rw [if_pos h]; omega
  · rename_i h; rw [if_neg h]; rw [wl_one] at this; omega
theorem wl_pre_go (P : Nat → Bool) (h0 : P 0 = false) (T : Nat → Wd) : ∀ m, ∃ G, pr T P 1 m = G * (if P m then pre T m else one) ∧ wl G ≤ bs (fun i => wl (pre T i)) P 0 m
  | 0 => ⟨one, by rw [h0]; rfl, Nat.zero_le _⟩
  | m + 1 => by
    obtain ⟨G, e, hG⟩ := wl_pre_go P h0 T m
    rw [pr_snoc, e, Nat.add_comm 1 m, bs_snoc, Nat.zero_add, pre_step]
    have g1 := wl_mul G (pre T m)
    have g2 := wl_mul G (inv (pre T m))
    rw [wl_inv] at g2
    cases hp : P m <;> cases hq : P (m + 1)
    · exact ⟨G, by simp only [Bool.false_eq_true, if_false, mul_one], by simpa using hG⟩
    · refine ⟨G * inv (pre T m), by simp only [Bool.false_eq_true, if_false, if_true, mul_one, assoc, inv_mul_c], ?_⟩
      rw [if_neg (by decide)]; omega
    · refine ⟨G * pre T m, by simp only [Bool.false_eq_true, if_false, if_true, mul_one], ?_⟩
      rw [if_neg (by decide)]; omega
    · exact ⟨G, by simp only [if_true, assoc], by simpa using hG⟩
theorem wl_pre (P : Nat → Bool) (h0 : P 0 = false) (T : Nat → Wd) : wl (pr T P 1 n) ≤ bs (fun i => wl (pre T i)) P 0 n + wl (pre T n) := by
  obtain ⟨G, e, hG⟩ := wl_pre_go P h0 T n
  rw [e]
  have := wl_mul G (if P n = true then pre T n else one)
  split at this
  · rename_i h; rw [if_pos h]; omega
  · rename_i h; rw [if_neg h]; rw [wl_one] at this; omega
def vK : Nat → Nat
  | 1 => 4
  | 2 => 7
  | 3 => 8
  | 4 => 7
  | 5 => 4
  | _ => 0
def cntP (P : Nat → Bool) : Nat → Nat
  | 0 => 0
  | m + 1 => cntP P m + (if P (m + 1) then 1 else 0)
theorem wl6 : ∀ b1 b2 b3 b4 b5 b6 : Bool, ∀ k : Fin 6, (b1.toNat + b2.toNat + b3.toNat + b4.toNat + b5.toNat + b6.toNat = k.val ∨ b1.toNat + b2.toNat + b3.toNat + b4.toNat + b5.toNat + b6.toNat + k.val = 6) → 1 ≤ k.val → 4 * ((if b1 = b2 then 0 else 4) + ((if b2 = b3 then 0 else 7) + ((if b3 = b4 then 0 else 8) + ((if b4 = b5 then 0 else 7) + ((if b5 = b6 then 0 else 4) + 0))))) ≤ 15 * vK k.val := by decide
theorem wl5 : ∀ b1 b2 b3 b4 b5 : Bool, ∀ k : Fin 5, (b1.toNat + b2.toNat + b3.toNat + b4.toNat + b5.toNat = k.val ∨ b1.toNat + b2.toNat + b3.toNat + b4.toNat + b5.toNat + k.val = 5) → 1 ≤ k.val → 4 * ((if b1 = b2 then 0 else 4) + ((if b2 = b3 then 0 else 7) + ((if b3 = b4 then 0 else 8) + ((if b4 = b5 then 0 else 7) + 0)))) ≤ 15 * vK k.val := by decide
theorem wl4 : ∀ b1 b2 b3 b4 : Bool, ∀ k : Fin 4, (b1.toNat + b2.toNat + b3.toNat + b4.toNat = k.val ∨ b1.toNat + b2.toNat + b3.toNat + b4.toNat + k.val = 4) → 1 ≤ k.val → 4 * ((if b1 = b2 then 0 else 4) + ((if b2 = b3 then 0 else 7) + ((if b3 = b4 then 0 else 8) + 0))) ≤ 15 * vK k.val := by decide
theorem wl3 : ∀ b1 b2 b3 : Bool, ∀ k : Fin 3, (b1.toNat + b2.toNat + b3.toNat = k.val ∨ b1.toNat + b2.toNat + b3.toNat + k.val = 3) → 1 ≤ k.val → 4 * ((if b1 = b2 then 0 else 4) + ((if b2 = b3 then 0 else 7) + 0)) ≤ 15 * vK k.val := by decide
theorem wl2 : ∀ b1 b2 : Bool, ∀ k : Fin 2, (b1.toNat + b2.toNat = k.val ∨ b1.toNat + b2.toNat + k.val = 2) → 1 ≤ k.val → 4 * ((if b1 = b2 then 0 else 4) + 0) ≤ 15 * vK k.val := by decide
theorem ite_nat (b : Bool) : (if b = true then 1 else 0) = b.toNat := by cases b <;> rfl
theorem weights (h2 : 2 ≤ n) (h6 : n ≤ 6) {k : Nat} (k1 : 1 ≤ k) (k2 : k < n) {P : Nat → Bool} (hc : cntP P n = k ∨ cntP P n + k = n) : 4 * bs vK P 1 (n - 1) ≤ 15 * vK k := by
  have hn : n = 2 ∨ n = 3 ∨ n = 4 ∨ n = 5 ∨ n = 6 := by omega
  rcases hn with rfl | rfl | rfl | rfl | rfl
  · have := wl2 (P 1) (P 2) ⟨k, k2⟩ (by simp only [cntP, ite_nat, Nat.reduceAdd, Nat.zero_add] at hc; simp only; omega) k1
    exact this
  · have := wl3 (P 1) (P 2) (P 3) ⟨k, k2⟩ (by simp only [cntP, ite_nat, Nat.reduceAdd, Nat.zero_add] at hc; simp only; omega) k1
    exact this
  · have := wl4 (P 1) (P 2) (P 3) (P 4) ⟨k, k2⟩ (by simp only [cntP, ite_nat, Nat.reduceAdd, Nat.zero_add] at hc; simp only; omega) k1
    exact this
  · have := wl5 (P 1) (P 2) (P 3) (P 4) (P 5) ⟨k, k2⟩ (by simp only [cntP, ite_nat, Nat.reduceAdd, Nat.zero_add] at hc; simp only; omega) k1
    exact this
  · have := wl6 (P 1) (P 2) (P 3) (P 4) (P 5) (P 6) ⟨k, k2⟩ (by simp only [cntP, ite_nat, Nat.reduceAdd, Nat.zero_add] at hc; simp only; omega) k1
    exact this
theorem bs_le {c v : Nat → Nat} {b : Nat} {P : Nat → Bool} : ∀ {m a : Nat}, (∀ i, a ≤ i → i < a + m → 4 * c i ≤ v i * b) → 4 * bs c P a m ≤ bs v P a m * b
  | 0, a, _ => by simp [bs]
  | m + 1, a, h => by
    have ih := bs_le (c := c) (v := v) (b := b) (P := P) (m := m) (a := a + 1) fun i h1 h2 => h i (by omega) (by omega)
    have h0 := h a (Nat.le_refl _) (by omega)
    rw [bs, bs]
    split
    · rw [Nat.zero_add, Nat.zero_add]; exact ih
    · rw [Nat.add_mul]; omega
theorem cnt_split {P Q R : Nat → Bool} : ∀ {m : Nat}, (∀ j, 1 ≤ j → j ≤ m → (P j).toNat = (Q j).toNat + (R j).toNat) → cntP P m = cntP Q m + cntP R m
  | 0, _ => rfl
  | m + 1, h => by
    have := h (m + 1) (by omega) (Nat.le_refl _)
    rw [cntP, cntP, cntP, cnt_split (m := m) fun j h1 h2 => h j h1 (by omega), ite_nat, ite_nat, ite_nat]
    omega
theorem cnt_zero {P : Nat → Bool} : ∀ {m : Nat}, (∀ j, 1 ≤ j → j ≤ m → P j = false) → cntP P m = 0
  | 0, _ => rfl
  | m + 1, h => by rw [cntP, cnt_zero (m := m) fun j h1 h2 => h j h1 (by omega), h (m + 1) (by omega) (Nat.le_refl _)]; rfl
theorem cnt_one {P : Nat → Bool} {j0 : Nat} : ∀ {m : Nat}, 1 ≤ j0 → j0 ≤ m → (∀ j, 1 ≤ j → j ≤ m → (P j = true ↔ j = j0)) → cntP P m = 1
  | 0, h1, h2, _ => by omega
  | m + 1, h1, h2, h => by
    have hm := h (m + 1) (by omega) (Nat.le_refl _)
    by_cases c : m + 1 = j0
    · rw [cntP, hm.2 c, cnt_zero fun j a b => by
        cases e : P j with
        | false => rfl
        | true => have := (h j a (by omega)).1 e; omega]
      rfl
    · have e : P (m + 1) = false := by
        cases e : P (m + 1) with
        | false => rfl
        | true => exact absurd (hm.1 e) c
      rw [cntP, e, cnt_one (m := m) h1 (by omega) fun j a b => h j a (by omega)]; rfl
theorem cnt_gt {p : List Int} (h : PL n p) : ∀ m k, k + m = n → cntP (fun j => decide (k < fnP p j)) n = m
  | 0, k, e => cnt_zero fun j h1 h2 => decide_eq_false (by have := h.pm.rg j h1 h2; omega)
  | m + 1, k, e => by
    have ih := cnt_gt h m (k + 1) (by omega)
    obtain ⟨j0, a, b, ej⟩ := h.sj (k + 1) (by omega) (by omega)
    have one := cnt_one (P := fun j => decide (fnP p j = k + 1)) a b fun j j1 j2 => by
      rw [decide_eq_true_iff]
      constructor
      · intro e2; exact h.pm.ij j j0 j1 j2 a b (by rw [e2]; unfold fnP; omega)
      · rintro rfl; unfold fnP; omega
    rw [cnt_split (Q := fun j => decide (k + 1 < fnP p j)) (R := fun j => decide (fnP p j = k + 1)) fun j j1 j2 => by
      rcases Nat.lt_trichotomy (fnP p j) (k + 1) with c | c | c
      · rw [decide_eq_false (by omega), decide_eq_false (by omega), decide_eq_false (by omega)]; rfl
      · rw [decide_eq_true (by omega), decide_eq_false (by omega), decide_eq_true c]; rfl
      · rw [decide_eq_true (by omega), decide_eq_true c, decide_eq_false (by omega)]; rfl, ih, one]
theorem cnt_le {p : List Int} (h : PL n p) : ∀ m, m ≤ n → cntP (fun i => decide (plL p (i : Int) ≤ m)) n = m
  | 0, _ => cnt_zero fun j h1 h2 => decide_eq_false (by have := (h.pl h1 h2).1; omega)
  | m + 1, e => by
    have ih := cnt_le h m (by omega)
    have hr := h.rg (m + 1) (by omega) e
    have one := cnt_one (P := fun i => decide (plL p (i : Int) = m + 1)) (j0 := fnP p (m + 1)) (by unfold fnP; omega) (show fnP p (m + 1) ≤ n by unfold fnP; omega) fun i j1 j2 => by
      rw [decide_eq_true_iff]
      have hi := h.pl j1 j2
      constructor
      · intro e2; rw [e2] at hi; unfold fnP; omega
      · intro e2
        have := h.pl_of (j := m + 1) (by omega) e
        rw [e2]; unfold fnP; rw [show (((ga p (m + 1)).toNat : Nat) : Int) = ga p (m + 1) by omega]; exact this
    rw [cnt_split (Q := fun i => decide (plL p (i : Int) ≤ m)) (R := fun i => decide (plL p (i : Int) = m + 1)) fun i j1 j2 => by
      rcases Nat.lt_trichotomy (plL p (i : Int)) (m + 1) with c | c | c
      · rw [decide_eq_true (by omega), decide_eq_true (by omega), decide_eq_false (by omega)]; rfl
      · rw [decide_eq_true (by omega), decide_eq_false (by omega), decide_eq_true c]; rfl
      · rw [decide_eq_false (by omega), decide_eq_false (by omega), decide_eq_false (by omega)]; rfl, ih, one]
def IPr (n : Nat) (T U : Nat → Wd) (r : List Int) : Prop := ∀ m, pre T m = pr U (fun i => decide (plL r (i : Int) ≤ m)) 1 n ∨ n < m
theorem pr_mid {T : Nat → Wd} {P : Nat → Bool} {i : Nat} (h1 : 1 ≤ i) (h2 : i < n) : pr T P 1 n = pr T P 1 (i - 1) * ((if P i then T i else one) * ((if P (i + 1) then T (i + 1) else one) * pr T P (i + 2) (n - (i + 1)))) := by
  have e1 := pr_add T P (i - 1) 1 (n - (i - 1))
  rw [show i - 1 + (n - (i - 1)) = n by omega, show 1 + (i - 1) = i by omega, show n - (i - 1) = (n - (i + 1)) + 1 + 1 by omega] at e1
  rw [e1, pr, pr]
theorem tot_stT {i : Nat} (h1 : 1 ≤ i) (h2 : i < n) (T : Nat → Wd) : suf n (stT T i) 0 = suf n T 0 := by
  show pr (stT T i) (fun _ => true) 1 n = pr T (fun _ => true) 1 n
  rw [pr_mid h1 h2, pr_mid h1 h2, stT_i, stT_s]
  have a : ∀ u m, (∀ j, u ≤ j → j < u + m → j ≠ i ∧ j ≠ i + 1) → pr (stT T i) (fun _ => true) u m = pr T (fun _ => true) u m := fun u m h => pr_cong fun j x y => by rw [if_pos rfl, if_pos rfl, stT_j _ (h j x y).1 (h j x y).2]
  rw [a 1 (i - 1) (fun j _ _ => by omega), a (i + 2) _ (fun j _ _ => by omega)]
  simp only [if_true, assoc, inv_mul_c]
theorem tot_stL {x : Int} (hx : 1 ≤ max x (-x) ∧ max x (-x) < n) (T : Nat → Wd) : suf n (stL T x) 0 = suf n T 0 := by
  unfold stL
  split
  · exact tot_stT (by omega) (by omega) T
  · have := tot_stT (n := n) (i := (-x).toNat) (by omega) (by omega) (stI T (-x).toNat)
    rw [stT_stI] at this
    exact this.symm
theorem tot_stW : ∀ {u : List Int} (T : Nat → Wd), okW n u → suf n (stW T u) 0 = suf n T 0
  | [], T, _ => rfl
  | x :: u, T, h => (tot_stW (u := u) (stL T x) fun y hy => h y (List.mem_cons_of_mem _ hy)).trans (tot_stL (h x (List.mem_cons_self ..)) T)
structure RelP (n : Nat) (p q s r : List Int) : Prop where
  pl : PL n r
  at_ : ∀ j, 1 ≤ j → j ≤ n → ga (0 :: q) (fnP r j) = ga (0 :: p) j
  inv_ : ∀ a b, 1 ≤ a → a < b → b ≤ n → fnP r b < fnP r a → ga (0 :: p) b < ga (0 :: p) a
  act : ∀ T, EqT n (stW T s) (acT n (fnP r) T)
  ip : ∀ T, IPr n T (stW T s) r
theorem Srn.rel {p q s : List Int} (R : Srn n p s q) (h : PL n (0 :: p)) : ∃ r, RelP n p q s r := by
  induction R with
  | nil =>
    have hid := PL.id_ n
    have fi : ∀ j, j ≤ n → fnP (idL n) j = j := fun j hj => by unfold fnP; rw [idL_ga hj]; omega
    refine ⟨idL n, hid, fun j h1 h2 => by rw [fi j h2], fun a b h1 h2 h3 h4 => by rw [fi a (by omega), fi b h3] at h4; omega, fun T => (id_act n T).symm, fun T m => ?_⟩
    by_cases c : n < m
    · exact .inr c
    · left
      show pre T m = pr T _ 1 n
      have e := pr_add T (fun i => decide (plL (idL n) (i : Int) ≤ m)) m 1 (n - m)
      rw [show m + (n - m) = n by omega] at e
      have pid : ∀ i, 1 ≤ i → i ≤ n → plL (idL n) (i : Int) = i := fun i h1 h2 => by have := hid.pl_of h1 h2; rwa [idL_ga h2] at this
      rw [e, pr_one (m := n - m) (fun j h1 h2 => decide_eq_false (by rw [pid j (by omega) (by omega)]; omega)), mul_one]
      exact pr_cong fun j h1 h2 => by rw [if_pos rfl, if_pos (decide_eq_true (by rw [pid j (by omega) (by omega)]; omega))]
  | @snoc s q i R hi hd ih =>
    obtain ⟨r, H⟩ := ih
    have hx1 : 1 ≤ i + 1 := by omega
    have a := H.pl.pl hx1 (show i + 1 ≤ n by omega)
    have b := H.pl.pl2 hx1 hi
    obtain ⟨ja, hja⟩ : ∃ j, plL r (((i + 1 : Nat)) : Int) = j := ⟨_, rfl⟩
    obtain ⟨jb, hjb⟩ : ∃ j, plL r (((i + 1 : Nat) : Int) + 1) = j := ⟨_, rfl⟩
    rw [hja] at a
    rw [hjb] at b
    have fa : fnP r ja = i + 1 := by unfold fnP; rw [a.2.2]; omega
    have fb : fnP r jb = i + 2 := by unfold fnP; rw [b.2.2]; omega
    have pa := H.at_ ja a.1 a.2.1
    have pb := H.at_ jb b.1 b.2.1
    rw [fa] at pa
    rw [fb] at pb
    have hd2 : ga (0 :: q) (i + 2) < ga (0 :: q) (i + 1) := hd
    have hab : ja < jb := by
      rcases Nat.lt_trichotomy ja jb with c | c | c
      · exact c
      · subst c; omega
      · have := H.inv_ jb ja b.1 c a.2.1 (by rw [fa, fb]; omega); omega
    have g := thenL_at H.pl hx1 hi
    rw [hja, hjb] at g
    have fn : ∀ j, fnP (thenL r ((i + 1 : Nat) : Int)) j = if j = ja then i + 2 else if j = jb then i + 1 else fnP r j := fun j => by
      unfold fnP; rw [g]
      split
      · omega
      · split
        · omega
        · rfl
    have hpl := H.pl.then_ hx1 hi
    have fne : ∀ j, 1 ≤ j → j ≤ n → j ≠ ja → j ≠ jb → fnP r j ≠ i + 1 ∧ fnP r j ≠ i + 2 := fun j j1 j2 x y => ⟨fun e => x (H.pl.pm.ij j ja j1 j2 a.1 a.2.1 (by rw [e, fa])), fun e => y (H.pl.pm.ij j jb j1 j2 b.1 b.2.1 (by rw [e, fb]))⟩
    have hq := R.pl h
    have qs : ∀ j, ga (0 :: swL q i) j = if j = i + 1 then ga (0 :: q) (i + 2) else if j = i + 2 then ga (0 :: q) (i + 1) else ga (0 :: q) j := fun j => by
      rw [← cons_sw]; exact swL_at (by rw [hq.len]; omega) j
    have p1 : plL (thenL r ((i + 1 : Nat) : Int)) ((i + 1 : Nat) : Int) = jb := by have := hpl.pl_of b.1 b.2.1; rwa [g, if_neg (by omega), if_pos rfl] at this
    have p2 : plL (thenL r ((i + 1 : Nat) : Int)) (((i + 1 : Nat) : Int) + 1) = ja := by have := hpl.pl_of a.1 a.2.1; rwa [g, if_pos rfl] at this
    have pj : ∀ j : Nat, 1 ≤ j → j ≤ n → j ≠ i + 1 → j ≠ i + 2 → plL (thenL r ((i + 1 : Nat) : Int)) (j : Int) = plL r (j : Int) := fun j j1 j2 x y => by
      have hj := H.pl.pl j1 j2
      have e : ga (thenL r ((i + 1 : Nat) : Int)) (plL r (j : Int)) = (j : Int) := by
        rw [g, if_neg (fun e => by rw [e, a.2.2] at hj; omega), if_neg (fun e => by rw [e, b.2.2] at hj; omega)]; exact hj.2.2
      have := hpl.pl_of hj.1 hj.2.1
      rwa [e] at this
    refine ⟨thenL r ((i + 1 : Nat) : Int), hpl, fun j j1 j2 => ?_, fun x y x1 xy y2 hxy => ?_, fun T => ?_, fun T m => ?_⟩
    · rw [fn, qs]
      by_cases c1 : j = ja
      · rw [if_pos c1, if_neg (by omega), if_pos rfl, c1]; exact pa
      · rw [if_neg c1]
        by_cases c2 : j = jb
        · rw [if_pos c2, if_pos rfl, c2]; exact pb
        · obtain ⟨u1, u2⟩ := fne j j1 j2 c1 c2
          rw [if_neg c2, if_neg u1, if_neg u2]
          exact H.at_ j j1 j2
    · have nx : x ≠ ja → x ≠ jb → fnP r x ≠ i + 1 ∧ fnP r x ≠ i + 2 := fne x x1 (by omega)
      have ny : y ≠ ja → y ≠ jb → fnP r y ≠ i + 1 ∧ fnP r y ≠ i + 2 := fne y (by omega) y2
      rw [fn, fn] at hxy
      by_cases cx : x = ja
      · by_cases cy : y = jb
        · subst cx cy; rw [← pa, ← pb]; exact hd2
        · refine H.inv_ x y x1 xy y2 ?_
          rw [if_pos cx, if_neg (by omega), if_neg cy] at hxy
          have := ny (by omega) cy
          rw [cx, fa]; omega
      · rw [if_neg cx] at hxy
        by_cases cx2 : x = jb
        · rw [if_pos cx2, if_neg (by omega), if_neg (by omega)] at hxy
          exact H.inv_ x y x1 xy y2 (by rw [cx2, fb]; omega)
        · rw [if_neg cx2] at hxy
          have := nx cx cx2
          refine H.inv_ x y x1 xy y2 ?_
          by_cases cy : y = ja
          · rw [if_pos cy] at hxy; rw [cy, fa]; omega
          · rw [if_neg cy] at hxy
            by_cases cy2 : y = jb
            · rw [if_pos cy2] at hxy; rw [cy2, fb]; omega
            · rw [if_neg cy2] at hxy; exact hxy
    · rw [stW_snoc, stL_pos]
      exact ((H.act T).stT_ hx1 hi).trans (act_then H.pl hx1 hi (by rw [hja, hjb]; exact hab) T).symm
    · rcases H.ip T m with e | c
      · left
        rw [e, stW_snoc, stL_pos, pr_mid hx1 hi, pr_mid hx1 hi, stT_i, stT_s]
        have far : ∀ u k, 1 ≤ u → (∀ j, u ≤ j → j < u + k → j ≤ n ∧ j ≠ i + 1 ∧ j ≠ i + 2) → pr (stT (stW T s) (i + 1)) (fun j => decide (plL (thenL r ((i + 1 : Nat) : Int)) (j : Int) ≤ m)) u k = pr (stW T s) (fun j => decide (plL r (j : Int) ≤ m)) u k := fun u k hu h => pr_cong fun j x y => by
          obtain ⟨z1, z2, z3⟩ := h j x y
          show (if decide (plL (thenL r ((i + 1 : Nat) : Int)) (j : Int) ≤ m) = true then stT (stW T s) (i + 1) j else one) = if decide (plL r (j : Int) ≤ m) = true then stW T s j else one
          rw [pj j (by omega) z1 z2 z3, stT_j _ z2 z3]
        rw [far 1 _ (Nat.le_refl _) (fun j _ _ => by omega), far (i + 1 + 2) _ (by omega) (fun j _ _ => by omega)]
        rw [show (((i + 1 + 1 : Nat)) : Int) = ((i + 1 : Nat) : Int) + 1 by omega, p1, p2, hja, hjb]
        refine congrArg _ ?_
        by_cases c1 : jb ≤ m
        · have c2 : ja ≤ m := by omega
          simp only [c1, c2, decide_true, if_true, assoc, inv_mul_c]
        · by_cases c2 : ja ≤ m
          · simp only [c1, c2, decide_true, decide_false, if_true, Bool.false_eq_true, if_false, one_mul]
          · simp only [c1, c2, decide_false, Bool.false_eq_true, if_false, one_mul]
      · exact .inr c
end
end Go.Proofs.Ytomcgmialkdcbaa
namespace Go.Proofs.Ytomcgmialkdcbaa
open Go.RowKit
open Wd
section
variable {n : Nat} {T U : Nat → Wd}
def BdS (n b : Nat) (T : Nat → Wd) : Prop := ∀ i, 1 ≤ i → i < n → 4 * wl (suf n T i) ≤ vK i * b
def BdA (n b : Nat) (T : Nat → Wd) : Prop := ∀ i, 1 ≤ i → i < n → 4 * wl (pre T i) ≤ vK i * b
def TotL (n : Nat) (T : Nat → Wd) : Prop := wl (suf n T 0) ≤ n
theorem pre_n (n : Nat) (T : Nat → Wd) : pre T n = suf n T 0 := rfl
theorem pre_0 (T : Nat → Wd) : pre T 0 = one := rfl
theorem vK_4 {i : Nat} (h1 : 1 ≤ i) (h2 : i < 6) : 4 ≤ vK i := by
  have : i = 1 ∨ i = 2 ∨ i = 3 ∨ i = 4 ∨ i = 5 := by omega
  rcases this with rfl | rfl | rfl | rfl | rfl <;> decide
theorem vb {i b : Nat} (h1 : 1 ≤ i) (h2 : i < 6) (hb : 24 ≤ b) : 96 ≤ vK i * b := Nat.mul_le_mul (vK_4 h1 h2) hb
theorem run_fw {p q s : List Int} (h : PL n (0 :: p)) (R : Srn n p s q) (h2 : 2 ≤ n) (h6 : n ≤ 6) {b : Nat} (hb : 24 ≤ b) (ht : TotL n T) (hB : BdS n b T) : BdS n (4 * b) (stW T s) := by
  obtain ⟨r, H⟩ := R.rel h
  intro k k1 k2
  rw [(H.act T).suf_, suf_acT H.pl.pm T (m := n - k) (by omega)]
  have e := wl_suf (n := n) (fun j => decide (k < fnP r j)) T
  have c := cnt_gt H.pl (n - k) k (by omega)
  have hw := weights h2 h6 k1 k2 (P := fun j => decide (k < fnP r j)) (.inr (by rw [c]; omega))
  have hs := bs_snoc (fun i => wl (suf n T i)) (fun j => decide (k < fnP r j)) (n - 1) 1
  rw [show n - 1 + 1 = n by omega, show 1 + (n - 1) = n by omega, suf_n, wl_one, ite_self, Nat.add_zero] at hs
  rw [hs] at e
  have hl := bs_le (c := fun i => wl (suf n T i)) (v := vK) (b := b) (P := fun j => decide (k < fnP r j)) (m := n - 1) (a := 1) fun i i1 i2 => hB i i1 (by omega)
  have hv := vb k1 (by omega : k < 6) hb
  have hm := Nat.mul_le_mul_right b hw
  rw [Nat.mul_assoc, Nat.mul_assoc] at hm
  unfold TotL at ht
  unfold sK
  rw [Nat.mul_left_comm]
  omega
theorem run_bw {p q s : List Int} (h : PL n (0 :: p)) (R : Srn n p s q) (h2 : 2 ≤ n) (h6 : n ≤ 6) {b : Nat} (hb : 24 ≤ b) (ht : TotL n (stW T s)) (hB : BdA n b (stW T s)) : BdA n (4 * b) T := by
  obtain ⟨r, H⟩ := R.rel h
  intro m m1 m2
  rcases H.ip T m with e | c
  · obtain ⟨P, hP⟩ : ∃ P : Nat → Bool, P = fun i : Nat => decide (1 ≤ i) && decide (plL r (i : Int) ≤ m) := ⟨_, rfl⟩
    have e1 : pr (stW T s) (fun i => decide (plL r (i : Int) ≤ m)) 1 n = pr (stW T s) P 1 n := pr_cong fun j j1 j2 => by
      have : P j = decide (plL r (j : Int) ≤ m) := by rw [hP]; simp [j1]
      rw [this]
    rw [e1] at e
    have w := wl_pre (n := n) P (by rw [hP]; rfl) (stW T s)
    have c1 : cntP P n = m := by
      have := cnt_le H.pl m (by omega)
      rw [← this]
      have key : ∀ k, cntP P k = cntP (fun i => decide (plL r (i : Int) ≤ m)) k := by
        intro k
        induction k with
        | zero => rfl
        | succ k ih => rw [cntP, cntP, ih, hP]; simp
      exact key n
    have hw := weights h2 h6 m1 m2 (P := P) (.inl c1)
    obtain ⟨n', hn⟩ : ∃ n', n = n' + 1 := ⟨n - 1, by omega⟩
    have hs : bs (fun i => wl (pre (stW T s) i)) P 0 n = bs (fun i => wl (pre (stW T s) i)) P 1 (n - 1) := by
      rw [hn, bs, pre_0, wl_one, ite_self, Nat.zero_add, Nat.zero_add, Nat.add_sub_cancel]
    rw [hs, pre_n] at w
    have hl := bs_le (c := fun i => wl (pre (stW T s) i)) (v := vK) (b := b) (P := P) (m := n - 1) (a := 1) fun i i1 i2 => hB i i1 (by omega)
    have hv := vb m1 (by omega : m < 6) hb
    have hm := Nat.mul_le_mul_right b hw
    rw [Nat.mul_assoc, Nat.mul_assoc] at hm
    unfold TotL at ht
    rw [e, Nat.mul_left_comm]
    omega
  · omega
theorem v2 (i : Nat) : vK i + vK (i + 1) ≤ 15 := by
  have : i = 0 ∨ i = 1 ∨ i = 2 ∨ i = 3 ∨ i = 4 ∨ i = 5 ∨ 6 ≤ i := by omega
  rcases this with rfl | rfl | rfl | rfl | rfl | rfl | h
  · decide
  · decide
  · decide
  · decide
  · decide
  · decide
  · have e : ∀ j, 6 ≤ j → vK j = 0 := fun j hj => by unfold vK; split <;> omega
    rw [e i h, e (i + 1) (by omega)]; omega
theorem len_S (h6 : n ≤ 6) {b : Nat} (ht : TotL n T) (hB : BdS n b T) {j : Nat} (j1 : 1 ≤ j) (j2 : j ≤ n) : 4 * wl (T j) ≤ 15 * b + 24 := by
  rw [suf_tab j1 j2 T]
  have w := wl_mul (suf n T (j - 1)) (inv (suf n T j))
  rw [wl_inv] at w
  unfold TotL at ht
  have a : 4 * wl (suf n T (j - 1)) ≤ vK (j - 1) * b + 24 := by
    by_cases c : j = 1
    · subst c; show 4 * wl (suf n T 0) ≤ _; omega
    · have := hB (j - 1) (by omega) (by omega); omega
  have a2 : 4 * wl (suf n T j) ≤ vK j * b := by
    by_cases c : j = n
    · subst c; rw [suf_n, wl_one]; omega
    · exact hB j j1 (by omega)
  have v := Nat.mul_le_mul_right b (v2 (j - 1))
  rw [show j - 1 + 1 = j by omega, Nat.add_mul] at v
  omega
theorem len_A (h6 : n ≤ 6) {b : Nat} (ht : TotL n T) (hB : BdA n b T) {j : Nat} (j1 : 1 ≤ j) (j2 : j ≤ n) : 4 * wl (T j) ≤ 15 * b + 24 := by
  have e : T j = inv (pre T (j - 1)) * pre T j := by
    have := pre_step T (j - 1)
    rw [show j - 1 + 1 = j by omega] at this
    rw [this, inv_mul_c]
  have w := wl_mul (inv (pre T (j - 1))) (pre T j)
  rw [wl_inv] at w
  rw [e]
  unfold TotL at ht
  have a : 4 * wl (pre T (j - 1)) ≤ vK (j - 1) * b := by
    by_cases c : j = 1
    · subst c; show 4 * wl (pre T 0) ≤ _; rw [pre_0, wl_one]; omega
    · exact hB (j - 1) (by omega) (by omega)
  have a2 : 4 * wl (pre T j) ≤ vK j * b + 24 := by
    by_cases c : j = n
    · subst c; rw [pre_n]; omega
    · have := hB j j1 (by omega); omega
  have v := Nat.mul_le_mul_right b (v2 (j - 1))
  rw [show j - 1 + 1 = j by omega, Nat.add_mul] at v
  omega
def AllQ (n L : Nat) (T : Nat → Wd) (u : List Int) : Prop := ∀ m, m ≤ u.length → ∀ j, 1 ≤ j → j ≤ n → wl (stW T (u.take m) j) ≤ L
theorem AllQ.app {L : Nat} {u v : List Int} (h : AllQ n L T u) (k : AllQ n L (stW T u) v) : AllQ n L T (u ++ v) := fun m hm j j1 j2 => by
  by_cases c : m ≤ u.length
  · rw [List.take_append_of_le_length c]; exact h m c j j1 j2
  · rw [List.length_append] at hm
    rw [List.take_append, List.take_of_length_le (by omega), stW_app]
    exact k (m - u.length) (by omega) j j1 j2
theorem Srn.split {p q s : List Int} (R : Srn n p s q) : ∀ m, m ≤ s.length → ∃ q', Srn n p (s.take m) q' ∧ Srn n q' (s.drop m) q := by
  induction R with
  | nil => intro m hm; simp at hm; subst hm; exact ⟨p, .nil, .nil⟩
  | @snoc s q i R hi hd ih =>
    intro m hm
    rw [List.length_append, List.length_singleton] at hm
    by_cases c : m ≤ s.length
    · obtain ⟨q', a, b⟩ := ih m c
      rw [List.take_append_of_le_length c, List.drop_append_of_le_length c]
      exact ⟨q', a, b.snoc hi hd⟩
    · have e : m = (s ++ [(i : Int) + 1]).length := by rw [List.length_append, List.length_singleton]; omega
      rw [e, List.take_length, List.drop_length]
      exact ⟨_, R.snoc hi hd, .nil⟩
theorem TotL.word {u : List Int} (h : TotL n T) (hu : okW n u) : TotL n (stW T u) := by unfold TotL at *; rw [tot_stW T hu]; exact h
theorem okW.pre_ {u : List Int} (h : okW n u) (m : Nat) : okW n (u.take m) := fun x hx => h x (List.mem_of_mem_take hx)
theorem seg_fw {p : List Int} (hp : PL n p) (h2 : 2 ≤ n) (h6 : n ≤ 6) {b L : Nat} (hb : 24 ≤ b) (hL : 15 * (4 * b) + 24 ≤ 4 * L) (ht : TotL n T) (hB : BdS n b T) : AllQ n L T (pmW (p.drop 1)) ∧ BdS n (4 * b) (stW T (pmW (p.drop 1))) := by
  have R := pmW_run hp.cons_pl
  refine ⟨fun m hm j j1 j2 => ?_, run_fw hp.cons_pl R h2 h6 hb ht hB⟩
  obtain ⟨q', a, _⟩ := R.split m hm
  have := len_S h6 (ht.word a.ok) (run_fw hp.cons_pl a h2 h6 hb ht hB) j1 j2
  omega
theorem segs_fw (h2 : 2 ≤ n) (h6 : n ≤ 6) {L : Nat} : ∀ {l : List (List Int)} {b : Nat} {T : Nat → Wd}, (∀ p ∈ l, PL n p) → 24 ≤ b → 15 * (4 ^ l.length * b) + 24 ≤ 4 * L → TotL n T → BdS n b T → AllQ n L T (l.flatMap fun p => pmW (p.drop 1)) ∧ BdS n (4 ^ l.length * b) (stW T (l.flatMap fun p => pmW (p.drop 1)))
  | [], b, T, _, _, hL, ht, hB => by
    rw [List.length_nil, Nat.pow_zero, Nat.one_mul] at *
    refine ⟨fun m hm j j1 j2 => ?_, hB⟩
    have := len_S h6 ht hB j1 j2
    have e : ([] : List (List Int)).flatMap (fun p => pmW (p.drop 1)) = [] := rfl
    rw [e, List.take_nil]
    show wl (T j) ≤ L
    omega
  | p :: l, b, T, hl, hb, hL, ht, hB => by
    have hp := hl p (List.mem_cons_self ..)
    have hpow : 1 ≤ 4 ^ l.length := Nat.one_le_pow _ _ (by omega)
    have e4 : 4 ^ (p :: l).length * b = 4 ^ l.length * (4 * b) := by rw [List.length_cons, Nat.pow_succ, Nat.mul_assoc]
    rw [e4] at hL ⊢
    have hle := Nat.mul_le_mul_right (4 * b) hpow
    obtain ⟨a1, a2⟩ := seg_fw hp h2 h6 (L := L) hb (by omega) ht hB
    obtain ⟨b1, b2⟩ := segs_fw h2 h6 (l := l) (b := 4 * b) (T := stW T (pmW (p.drop 1))) (fun q hq => hl q (List.mem_cons_of_mem _ hq)) (by omega) hL (ht.word hp.wok) a2
    rw [List.flatMap_cons, stW_app]
    exact ⟨a1.app b1, b2⟩
theorem segs_bw (h2 : 2 ≤ n) (h6 : n ≤ 6) {L : Nat} : ∀ {l : List (List Int)} {b : Nat} {T : Nat → Wd}, (∀ p ∈ l, PL n p) → 24 ≤ b → 15 * (4 ^ l.length * b) + 24 ≤ 4 * L → TotL n T → BdA n b (stW T (l.flatMap fun p => pmW (p.drop 1))) → AllQ n L T (l.flatMap fun p => pmW (p.drop 1)) ∧ BdA n (4 ^ l.length * b) T
  | [], b, T, _, _, hL, ht, hB => by
    rw [List.length_nil, Nat.pow_zero, Nat.one_mul] at *
    have e : ([] : List (List Int)).flatMap (fun p => pmW (p.drop 1)) = [] := rfl
    rw [e] at hB ⊢
    refine ⟨fun m hm j j1 j2 => ?_, hB⟩
    have := len_A h6 ht hB j1 j2
    rw [List.take_nil]
    show wl (T j) ≤ L
    omega
  | p :: l, b, T, hl, hb, hL, ht, hB => by
    have hp := hl p (List.mem_cons_self ..)
    have hpow : 1 ≤ 4 ^ l.length := Nat.one_le_pow _ _ (by omega)
    have e4 : 4 ^ (p :: l).length * b = 4 * (4 ^ l.length * b) := by rw [List.length_cons, Nat.pow_succ, Nat.mul_comm (4 ^ l.length) 4, Nat.mul_assoc]
    rw [e4] at hL ⊢
    rw [List.flatMap_cons, stW_app] at hB
    have hle := Nat.mul_le_mul_right b hpow
    have ht1 := ht.word hp.wok
    obtain ⟨b1, b2⟩ := segs_bw h2 h6 (L := L) (l := l) (b := b) (T := stW T (pmW (p.drop 1))) (fun q hq => hl q (List.mem_cons_of_mem _ hq)) hb (by omega) ht1 hB
    have R := pmW_run hp.cons_pl
    rw [List.flatMap_cons]
    refine ⟨AllQ.app (fun m hm j j1 j2 => ?_) b1, run_bw hp.cons_pl R h2 h6 (by omega) ht1 b2⟩
    obtain ⟨q', a, c⟩ := R.split m hm
    have e : stW (stW T ((pmW (p.drop 1)).take m)) ((pmW (p.drop 1)).drop m) = stW T (pmW (p.drop 1)) := by rw [← stW_app, List.take_append_drop]
    have hx : BdA n (4 ^ l.length * b) (stW (stW T ((pmW (p.drop 1)).take m)) ((pmW (p.drop 1)).drop m)) := by rw [e]; exact b2
    have := len_A h6 (ht.word (hp.wok.pre_ m)) (run_bw (a.pl hp.cons_pl) c h2 h6 (by omega) (by rw [e]; exact ht1) hx) j1 j2
    omega
def MxS (n M : Nat) (T : Nat → Wd) : Prop := ∀ i, i ≤ n → wl (suf n T i) ≤ M
theorem MxS.eq_ {M : Nat} (h : MxS n M T) (e : EqT n T U) : MxS n M U := fun i hi => by rw [← e.suf_]; exact h i hi
theorem tot_mul (T : Nat → Wd) {m : Nat} (h : m ≤ n) : pre T m = suf n T 0 * inv (suf n T m) := by rw [← pre_n, pre_suf h, assoc, mul_inv, mul_one]
theorem MxS.del_ {M : Nat} (h : MxS n M T) (ht : TotL n T) : MxS n (n + M) (acT n (fnP (delL n)) T) := fun i hi => by
  rw [suf_acT (PL.del_ n).pm _ (m := n - i) (by omega), sK_del hi, tot_mul (n := n) T (m := n - i) (by omega)]
  have := wl_mul (suf n T 0) (inv (suf n T (n - i)))
  rw [wl_inv] at this
  have a := h (n - i) (by omega)
  unfold TotL at ht
  omega
theorem MxS.dI_ {M : Nat} (h : MxS n M T) (ht : TotL n T) : MxS n (n + M) (dI n T) := fun i hi => by
  have e := pre_suf (n := n) hi (dI n T)
  rw [dI_pre T n (Nat.le_refl _), dI_pre T i hi, Nat.sub_self] at e
  have e2 : suf n (dI n T) i = inv (suf n T (n - i)) * suf n T 0 := by rw [e, inv_mul_c]
  rw [e2]
  have := wl_mul (inv (suf n T (n - i))) (suf n T 0)
  rw [wl_inv] at this
  have a := h (n - i) (by omega)
  unfold TotL at ht
  omega
theorem bs_max {c : Nat → Nat} {M : Nat} {P : Nat → Bool} : ∀ {m a : Nat}, (∀ i, a ≤ i → i < a + m → c i ≤ M) → bs c P a m ≤ m * M
  | 0, a, _ => Nat.zero_le _
  | m + 1, a, h => by
    have ih := bs_max (c := c) (M := M) (P := P) (m := m) (a := a + 1) fun i h1 h2 => h i (by omega) (by omega)
    have h0 := h a (Nat.le_refl _) (by omega)
    rw [bs, Nat.add_mul, Nat.one_mul]
    split <;> omega
theorem MxS.run {M : Nat} {p q s : List Int} (h : PL n (0 :: p)) (R : Srn n p s q) (hM : MxS n M T) (ht : TotL n T) : MxS n (n + n * M) (stW T s) := by
  obtain ⟨r, H⟩ := R.rel h
  intro k hk
  rw [(H.act T).suf_, suf_acT H.pl.pm T (m := n - k) (by omega)]
  have e := wl_suf (n := n) (fun j => decide (k < fnP r j)) T
  have b := bs_max (c := fun i => wl (suf n T i)) (M := M) (P := fun j => decide (k < fnP r j)) (m := n) (a := 1) fun i i1 i2 => hM i (by omega)
  unfold TotL at ht
  unfold sK
  omega
theorem MxS.len {M : Nat} (hM : MxS n M T) {j : Nat} (j1 : 1 ≤ j) (j2 : j ≤ n) : wl (T j) ≤ 2 * M := by
  rw [suf_tab j1 j2 T]
  have w := wl_mul (suf n T (j - 1)) (inv (suf n T j))
  rw [wl_inv] at w
  have a := hM (j - 1) (by omega)
  have b := hM j j2
  omega
theorem del_all {M L : Nat} (hM : MxS n M T) (ht : TotL n T) (hL : 2 * (n + n * M) ≤ L) : AllQ n L T (dlW n) := fun m hm j j1 j2 => by
  have hd := (PL.del_ n).cons_pl
  obtain ⟨q', a, _⟩ := (pmW_run hd).split m hm
  have := (hM.run hd a ht).len j1 j2
  exact Nat.le_trans this hL
theorem inv_take {u : List Int} {m : Nat} (h : m ≤ u.length) : (invW u).take m = invW (u.drop (u.length - m)) := by
  unfold invW
  rw [List.map_reverse, List.map_reverse, List.take_reverse, List.length_map, List.map_drop]
theorem delI_all {M L : Nat} (hM : MxS n M T) (ht : TotL n T) (hL : 2 * (n + n * (n + M)) ≤ L) : AllQ n L T (invW (dlW n)) := fun m hm j j1 j2 => by
  have hd := (PL.del_ n).cons_pl
  rw [invW_len] at hm
  have hT : MxS n (n + M) (stW T (invW (dlW n))) := (hM.dI_ ht).eq_ (dlW_inv T).symm
  have hT0 : TotL n (stW T (invW (dlW n))) := ht.word (dlW_ok n).inv
  have back : stW (stW T (invW (dlW n))) (dlW n) = T := by
    have := stW_inv (n := n) (w := invW (dlW n)) T (dlW_ok n).inv
    rwa [invW_inv] at this
  have e : stW T ((invW (dlW n)).take m) = stW (stW T (invW (dlW n))) ((dlW n).take ((dlW n).length - m)) := by
    rw [inv_take hm]
    conv => lhs; rw [← back, ← List.take_append_drop ((dlW n).length - m) (dlW n), stW_app]
    rw [List.take_append_drop]
    exact stW_inv (n := n) _ fun x hx => dlW_ok n x (List.mem_of_mem_drop hx)
  obtain ⟨q', a, _⟩ := (pmW_run hd).split ((dlW n).length - m) (by show _ - m ≤ (dlW n).length; omega)
  rw [e]
  exact Nat.le_trans ((hT.run hd a hT0).len j1 j2) hL
theorem rep_all {u : List Int} {L : Nat} (hu : okW n u) (st : ∀ T M, TotL n T → MxS n M T → MxS n (n + M) (stW T u)) (al : ∀ T M, TotL n T → MxS n M T → 2 * (n + n * (n + M)) ≤ L → AllQ n L T u) : ∀ (m M : Nat) (T : Nat → Wd), TotL n T → MxS n M T → 2 * (n + n * (n + (m * n + M))) ≤ L → AllQ n L T (List.replicate m u).flatten ∧ MxS n (m * n + M) (stW T (List.replicate m u).flatten)
  | 0, M, T, ht, hM, hL => by
    rw [Nat.zero_mul, Nat.zero_add] at *
    refine ⟨fun m hm j j1 j2 => ?_, hM⟩
    show wl (stW T (([] : List Int).take m) j) ≤ L
    rw [List.take_nil]
    have := hM.len j1 j2
    have : M ≤ n * (n + M) := Nat.le_trans (Nat.le_add_left _ _) (Nat.le_mul_of_pos_left _ (by omega))
    show wl (T j) ≤ L
    omega
  | m + 1, M, T, ht, hM, hL => by
    have e : (List.replicate (m + 1) u).flatten = u ++ (List.replicate m u).flatten := by rw [List.replicate_succ, List.flatten_cons]
    have e2 : (m + 1) * n + M = m * n + (n + M) := by rw [Nat.add_mul, Nat.one_mul, Nat.add_assoc]
    rw [e2] at hL ⊢
    have hle : n * (n + M) ≤ n * (n + (m * n + (n + M))) := Nat.mul_le_mul_left _ (by omega)
    obtain ⟨a, b⟩ := rep_all hu st al m (n + M) (stW T u) (ht.word hu) (st T M ht hM) hL
    rw [e, stW_app]
    exact ⟨(al T M ht hM (by omega)).app a, b⟩
theorem wl_pr1 (h : ∀ j, wl (T j) ≤ 1) (P : Nat → Bool) : ∀ m a, wl (pr T P a m) ≤ m
  | 0, a => Nat.le_refl _
  | m + 1, a => by
    have ih := wl_pr1 h P m (a + 1)
    have := wl_mul (if P a then T a else one) (pr T P (a + 1) m)
    have h0 : wl (if P a then T a else one) ≤ 1 := by split; exact h a; exact Nat.zero_le _
    rw [pr]
    omega
theorem tb0_1 (j : Nat) : wl (tb0 j) ≤ 1 := Nat.le_refl _
theorem tb0_mx (n : Nat) : MxS n n tb0 := fun i hi => Nat.le_trans (wl_pr1 tb0_1 _ _ _) (by omega)
theorem tb0_tot (n : Nat) : TotL n tb0 := tb0_mx n 0 (Nat.zero_le _)
theorem dz_all (h6 : n ≤ 6) {z : Int} (hz : -20 ≤ z ∧ z ≤ 20) : AllQ n 2000 tb0 (dzW n z) ∧ MxS n 126 (stW tb0 (dzW n z)) := by
  have st1 : ∀ T M, TotL n T → MxS n M T → MxS n (n + M) (stW T (dlW n)) := fun T M ht hM => (hM.del_ ht).eq_ (dlW_act T).symm
  have st2 : ∀ T M, TotL n T → MxS n M T → MxS n (n + M) (stW T (invW (dlW n))) := fun T M ht hM => (hM.dI_ ht).eq_ (dlW_inv T).symm
  have al1 : ∀ T M, TotL n T → MxS n M T → 2 * (n + n * (n + M)) ≤ 2000 → AllQ n 2000 T (dlW n) := fun T M ht hM hL => del_all hM ht (Nat.le_trans (Nat.mul_le_mul_left _ (Nat.add_le_add_left (Nat.mul_le_mul_left _ (Nat.le_add_left _ _)) _)) hL)
  have al2 : ∀ T M, TotL n T → MxS n M T → 2 * (n + n * (n + M)) ≤ 2000 → AllQ n 2000 T (invW (dlW n)) := fun T M ht hM hL => delI_all hM ht hL
  have num : ∀ m : Nat, m ≤ 20 → m * n + n ≤ 126 ∧ 2 * (n + n * (n + (m * n + n))) ≤ 2000 := fun m hm => by
    have h1 : m * n ≤ 20 * 6 := Nat.mul_le_mul hm h6
    have h2 : n * (n + (m * n + n)) ≤ 6 * (6 + (20 * 6 + 6)) := Nat.mul_le_mul h6 (by omega)
    omega
  have fin : ∀ (u : List Int) m, m ≤ 20 → AllQ n 2000 tb0 (List.replicate m u).flatten ∧ MxS n (m * n + n) (stW tb0 (List.replicate m u).flatten) → AllQ n 2000 tb0 (List.replicate m u).flatten ∧ MxS n 126 (stW tb0 (List.replicate m u).flatten) := fun u m hm h => ⟨h.1, fun i hi => Nat.le_trans (h.2 i hi) (num m hm).1⟩
  unfold dzW
  split
  · exact fin _ _ (by omega) (rep_all (dlW_ok n) st1 al1 _ n tb0 (tb0_tot n) (tb0_mx n) (num _ (by omega)).2)
  · exact fin _ _ (by omega) (rep_all (dlW_ok n).inv st2 al2 _ n tb0 (tb0_tot n) (tb0_mx n) (num _ (by omega)).2)
def bLt : Nat → Nat
  | 0 => 5
  | r + 1 => (11 * bLt r + 27) / 4
theorem v3 {i : Nat} (h1 : 1 ≤ i) (h2 : i < 6) : 4 * (vK (i - 1) + vK i + vK (i + 1)) ≤ 11 * vK i := by
  have : i = 1 ∨ i = 2 ∨ i = 3 ∨ i = 4 ∨ i = 5 := by omega
  rcases this with rfl | rfl | rfl | rfl | rfl <;> decide
theorem pre_cong {m : Nat} (h : ∀ j, 1 ≤ j → j ≤ m → T j = U j) : pre T m = pre U m := pr_cong fun j a b => by rw [if_pos rfl, if_pos rfl, h j a (by omega)]
theorem let_bd (h6 : n ≤ 6) {b : Nat} (ht : TotL n T) (hB : BdA n b T) {x : Int} (hx : 1 ≤ max x (-x) ∧ max x (-x) < n) : BdA n ((11 * b + 27) / 4) (stL T x) := by
  obtain ⟨i, hi⟩ : ∃ i : Nat, i = (max x (-x)).toNat := ⟨_, rfl⟩
  have i1 : 1 ≤ i := by omega
  have i2 : i < n := by omega
  -- what changes
  have key : ∀ V : Nat → Wd, (∀ j, j ≠ i → j ≠ i + 1 → V j = T j) → V i * V (i + 1) = T i * T (i + 1) → wl (pre V i) ≤ wl (pre T (i - 1)) + wl (pre T i) + wl (pre T (i + 1)) → BdA n ((11 * b + 27) / 4) V := by
    intro V hV hp hw j j1 j2
    have b4 : 11 * b + 24 ≤ 4 * ((11 * b + 27) / 4) := by omega
    have hb1 : b ≤ (11 * b + 27) / 4 := by omega
    have pl : ∀ m, m < i → pre V m = pre T m := fun m hm => pre_cong fun j _ _ => hV j (by omega) (by omega)
    have pg : ∀ m, pre V (i + 1 + m) = pre T (i + 1 + m) := by
      intro m
      induction m with
      | zero =>
        have e : i = (i - 1) + 1 := by omega
        have pi : ∀ W : Nat → Wd, pre W i = pre W (i - 1) * W i := fun W => by
          have := pre_step W (i - 1)
          rwa [← e] at this
        rw [Nat.add_zero, pre_step, pre_step, pi V, pi T, pl (i - 1) (by omega), assoc, hp, assoc]
      | succ m ih => rw [← Nat.add_assoc, pre_step, pre_step, ih, hV _ (by omega) (by omega)]
    by_cases c : j = i
    · subst c
      have a0 : 4 * wl (pre T (j - 1)) ≤ vK (j - 1) * b := by
        by_cases c : j = 1
        · subst c; show 4 * wl (pre T 0) ≤ _; rw [pre_0, wl_one]; omega
        · exact hB (j - 1) (by omega) (by omega)
      have a1 := hB j j1 j2
      have a2 : 4 * wl (pre T (j + 1)) ≤ vK (j + 1) * b + 24 := by
        by_cases c : j + 1 = n
        · unfold TotL at ht; rw [c, pre_n]; omega
        · have := hB (j + 1) (by omega) (by omega); omega
      have v := Nat.mul_le_mul_right b (v3 j1 (by omega : j < 6))
      have v4 := vK_4 j1 (by omega : j < 6)
      have m1 := Nat.mul_le_mul_left (vK j) b4
      have e1 : 4 * (vK (j - 1) + vK j + vK (j + 1)) * b = 4 * (vK (j - 1) * b + vK j * b + vK (j + 1) * b) := by rw [Nat.mul_assoc, Nat.add_mul, Nat.add_mul]
      have e2 : 11 * vK j * b = 11 * (vK j * b) := Nat.mul_assoc _ _ _
      have e3 : vK j * (11 * b + 24) = 11 * (vK j * b) + 24 * vK j := by rw [Nat.mul_add, Nat.mul_left_comm, Nat.mul_comm (vK j) 24]
      have e4 : vK j * (4 * ((11 * b + 27) / 4)) = 4 * (vK j * ((11 * b + 27) / 4)) := Nat.mul_left_comm _ _ _
      rw [e1, e2] at v
      rw [e3, e4] at m1
      omega
    · have e : pre V j = pre T j := by
        rcases Nat.lt_or_ge j i with c1 | c1
        · exact pl j c1
        · have := pg (j - (i + 1))
          rwa [show i + 1 + (j - (i + 1)) = j by omega] at this
      rw [e]
      exact Nat.le_trans (hB j j1 j2) (Nat.mul_le_mul_left _ hb1)
  have pi : ∀ W : Nat → Wd, pre W i = pre W (i - 1) * W i := fun W => by
    have := pre_step W (i - 1)
    rwa [show i - 1 + 1 = i by omega] at this
  have ti : T i = inv (pre T (i - 1)) * pre T i := by rw [pi T, inv_mul_c]
  have ts : T (i + 1) = inv (pre T i) * pre T (i + 1) := by rw [pre_step, inv_mul_c]
  have w3 : ∀ x y z : Wd, wl (x * (y * z)) ≤ wl x + wl y + wl z := fun x y z => by have := wl_mul x (y * z); have := wl_mul y z; omega
  unfold stL
  split
  · rw [show x.toNat = i by omega]
    refine key _ (fun j a b => stT_j _ a b) (by rw [stT_i, stT_s]; simp only [assoc, inv_mul, mul_one]) ?_
    have p1 : pre (stT T i) (i - 1) = pre T (i - 1) := pre_cong fun j _ _ => stT_j _ (by omega) (by omega)
    have e : pre (stT T i) i = pre T (i + 1) * (inv (pre T i) * pre T (i - 1)) := by
      rw [pi (stT T i), p1, stT_i, ti, ts]
      simp only [mul_inv_rev, inv_inv, assoc, mul_inv_c, inv_mul_c]
    rw [e]
    have := w3 (pre T (i + 1)) (inv (pre T i)) (pre T (i - 1))
    rw [wl_inv] at this
    omega
  · rw [show (-x).toNat = i by omega]
    refine key _ (fun j a b => stI_j _ a b) (by rw [stI_i, stI_s]; simp only [assoc, mul_inv_c]) ?_
    have p1 : pre (stI T i) (i - 1) = pre T (i - 1) := pre_cong fun j _ _ => stI_j _ (by omega) (by omega)
    have e : pre (stI T i) i = pre T (i - 1) * (inv (pre T i) * pre T (i + 1)) := by
      rw [pi (stI T i), p1, stI_i, ts]
    rw [e]
    have := w3 (pre T (i - 1)) (inv (pre T i)) (pre T (i + 1))
    rw [wl_inv] at this
    omega
theorem bLt_mono : ∀ r, bLt r ≤ bLt (r + 1) := fun r => by show bLt r ≤ (11 * bLt r + 27) / 4; omega
theorem bLt_le {r s : Nat} (h : r ≤ s) : bLt r ≤ bLt s := by
  induction h with
  | refl => exact Nat.le_refl _
  | step _ ih => exact Nat.le_trans ih (bLt_mono _)
theorem word_bd (h6 : n ≤ 6) : ∀ {u : List Int} {r : Nat} {T : Nat → Wd}, okW n u → TotL n T → BdA n (bLt r) T → BdA n (bLt (r + u.length)) (stW T u)
  | [], r, T, _, _, h => h
  | x :: u, r, T, hu, ht, h => by
    have hx := hu x (List.mem_cons_self ..)
    have h1 := let_bd h6 ht h hx
    have := word_bd h6 (u := u) (r := r + 1) (T := stL T x) (fun y hy => hu y (List.mem_cons_of_mem _ hy)) (by unfold TotL at *; rw [tot_stL hx]; exact ht) h1
    rw [List.length_cons, show r + (u.length + 1) = r + 1 + u.length by omega]
    exact this
theorem tb0_bd (h6 : n ≤ 6) : BdA n (bLt 0) tb0 := fun i i1 i2 => by
  have := wl_pr1 tb0_1 (fun _ => true) i 1
  have e : wl (pre tb0 i) ≤ i := this
  have c : i = 1 ∨ i = 2 ∨ i = 3 ∨ i = 4 ∨ i = 5 := by omega
  show 4 * wl (pre tb0 i) ≤ vK i * 5
  rcases c with rfl | rfl | rfl | rfl | rfl <;> (simp only [vK]; omega)
theorem bLt20 : bLt 20 ≤ 5600000000 ∧ 24 ≤ bLt 20 := by decide
def bigL : Nat := 5800000000000
theorem BdA.eq_ {b : Nat} (h : BdA n b T) (e : EqT n T U) : BdA n b U := fun i i1 i2 => by
  rw [← pre_cong (T := T) (U := U) fun j a c => e j a (by omega)]; exact h i i1 i2
theorem BdS.of_mx (h6 : n ≤ 6) (h : MxS n 126 T) : BdS n 126 T := fun i i1 i2 => by
  have := h i (by omega)
  have := Nat.mul_le_mul_right 126 (vK_4 i1 (by omega : i < 6))
  omega
theorem all_bd {w : List Int} {z : Int} {l : List (List Int)} (h2 : 2 ≤ n) (h6 : n ≤ 6) (h : NfI n w z l) (hw : okW n w) (hw20 : w.length ≤ 20) (hl : l.length ≤ 20) (hz : -20 ≤ z ∧ z ≤ 20) : AllQ n bigL tb0 (alW n z l) := by
  obtain ⟨a, am⟩ := dz_all h6 hz
  have ad := (dzW_act (n := n) z tb0).2
  have t1 := (tb0_tot n).word ad
  have hpl1 : ∀ p ∈ l.take 16, PL n p := fun p hp => h.pl p (List.mem_of_mem_take hp)
  have hpl2 : ∀ p ∈ l.drop 16, PL n p := fun p hp => h.pl p (List.mem_of_mem_drop hp)
  have hp16 : 4 ^ (l.take 16).length ≤ 4 ^ 16 := Nat.pow_le_pow_right (by omega) (by rw [List.length_take]; omega)
  have hp4 : 4 ^ (l.drop 16).length ≤ 4 ^ 4 := Nat.pow_le_pow_right (by omega) (by rw [List.length_drop]; omega)
  have n16 : 4 ^ 16 = 4294967296 := by decide
  have n4 : 4 ^ 4 = 256 := by decide
  rw [n16] at hp16
  rw [n4] at hp4
  obtain ⟨b1, _⟩ := segs_fw h2 h6 (L := bigL) hpl1 (b := 126) (by omega) (by unfold bigL; omega) t1 (BdS.of_mx h6 am)
  have t2 := t1.word (alW_l (stW tb0 (dzW n z)) hpl1).2
  have e : alW n z l = dzW n z ++ ((l.take 16).flatMap (fun p => pmW (p.drop 1)) ++ (l.drop 16).flatMap fun p => pmW (p.drop 1)) := by
    unfold alW; rw [← List.flatMap_append, List.take_append_drop]
  have fin : BdA n (bLt 20) (stW (stW (stW tb0 (dzW n z)) ((l.take 16).flatMap fun p => pmW (p.drop 1))) ((l.drop 16).flatMap fun p => pmW (p.drop 1))) := by
    have h1 := word_bd h6 hw (tb0_tot n) (tb0_bd h6)
    have h2' : BdA n (bLt 20) (stW tb0 w) := fun i i1 i2 => Nat.le_trans (h1 i i1 i2) (Nat.mul_le_mul_left _ (bLt_le (by omega)))
    have h3 := h2'.eq_ h.word.1.symm
    rw [e, stW_app, stW_app] at h3
    exact h3
  have hb := bLt20
  have hm := Nat.mul_le_mul hp4 hb.1
  obtain ⟨c1, _⟩ := segs_bw h2 h6 (L := bigL) hpl2 hb.2 (by unfold bigL; omega) t2 fin
  rw [e]
  exact AllQ.app (fun m hm j j1 j2 => Nat.le_trans (a m hm j j1 j2) (by unfold bigL; omega)) (b1.app c1)
/-- .. as the tables' lists. -/
theorem act_bd {w : List Int} {z : Int} {l : List (List Int)} (h2 : 2 ≤ n) (h6 : n ≤ 6) (h : NfI n w z l) (hw : okW n w) (hw20 : w.length ≤ 20) (hl : l.length ≤ 20) (hz : -20 ≤ z ∧ z ≤ 20) {m i : Nat} (hm : m ≤ (alW n z l).length) (hi : i < n) : (ga (actP n ((alW n z l).take m)) i).length ≤ bigL := by
  have hok := h.word.2
  rw [(tab_word (hok.pre_ m)).2 i hi]
  exact all_bd h2 h6 h hw hw20 hl hz m hm (i + 1) (by omega) (by omega)
end
end Go.Proofs.Ytomcgmialkdcbaa
