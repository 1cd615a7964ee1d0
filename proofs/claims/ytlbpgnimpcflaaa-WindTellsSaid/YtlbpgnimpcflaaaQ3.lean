/- Walks printed by eng.py. -/
import Derived.Test.YtlbpgnimpcflaaaQ2
set_option linter.unusedSimpArgs false
set_option linter.unusedVariables false
namespace Go.Proofs.Ytlbpgnimpcflaaa
open Go.ChangeShapes Go.WideShapes Go.ChangeAt Go.RowKit
/-- The arc behind an arc when each crossing is undone. -/
def abv (x : Cr) : Int × Int := if x.plus = true then (x.d, x.b) else (x.b, x.d)
def nxtC (d : Dg) (a : Int) : Int := if (endOf d a false).2 = 0 then (abv (ga d.crs (endOf d a false).1)).2 else (ga d.crs (endOf d a false).1).c
def circN (d : Dg) (a : Nat) : Nat := (nxtC d (a : Int)).toNat
def circL (d : Dg) : List (List Int) := (ringsF (circN d) (2 * d.crs.length + 1) (2 * d.crs.length)).2
theorem circN_eq {d : Dg} (h : arcsB d = true) {a : Nat} (h0 : 1 ≤ a) (h1 : a ≤ 2 * d.crs.length) : nxtC d (a : Int) = (circN d a : Int) ∧ 1 ≤ circN d a ∧ circN d a ≤ 2 * d.crs.length := by
  obtain ⟨e1, e2, _⟩ := endD h (a := (a : Int)) (by omega) false
  have hb : 1 ≤ (ga d.crs (endOf d (a : Int) false).1).b ∧ (ga d.crs (endOf d (a : Int) false).1).b ≤ 2 * (d.crs.length : Int) := arcAt_bd h e1 (k := 1) (by omega)
  have hc : 1 ≤ (ga d.crs (endOf d (a : Int) false).1).c ∧ (ga d.crs (endOf d (a : Int) false).1).c ≤ 2 * (d.crs.length : Int) := arcAt_bd h e1 (k := 2) (by omega)
  have hd : 1 ≤ (ga d.crs (endOf d (a : Int) false).1).d ∧ (ga d.crs (endOf d (a : Int) false).1).d ≤ 2 * (d.crs.length : Int) := arcAt_bd h e1 (k := 3) (by omega)
  have hr : 1 ≤ nxtC d (a : Int) ∧ nxtC d (a : Int) ≤ 2 * (d.crs.length : Int) := by
    unfold nxtC abv
    split
    · split
      · exact hb
      · exact hd
    · exact hc
  unfold circN
  omega

noncomputable def Above_n0 : Code := Try.f92.body.getD .skip
noncomputable def Above_n1 : Code := cL Above_n0
noncomputable def Above_n2 : Code := cR Above_n0
noncomputable def Above_n3 : Code := cL Above_n2
noncomputable def Above_n4 : Code := cR Above_n2
noncomputable def Above_n5 : Code := cL Above_n3
noncomputable def Above_n6 : Code := cR Above_n3
noncomputable def Above_n7 : Code := cL Above_n6
noncomputable def Above_n8 : Code := cR Above_n6
noncomputable def Above_n9 : Code := cL Above_n7
noncomputable def Above_n10 : Code := cR Above_n7
noncomputable def Above_n11 : Code := cL Above_n4
noncomputable def Above_n12 : Code := cR Above_n4
set_option maxRecDepth 10000 in
theorem Above_q {w : World} {M : Hp} {X : Fr} (x : Cr) (S : SH w M X []) : Cq Try.prog 92 [.agg [.int .i64 x.a, .int .i64 x.b, .int .i64 x.c, .int .i64 x.d, .bool x.plus].toArray] w M X (fun u => u = .agg [.int .i64 (abv x).1, .int .i64 (abv x).2].toArray) := by
  unfold Cq
  refine calls_in (b := Above_n0) Try.func92 rfl Try.ntmps92 rfl (fun C hC => ?_)
  refine ws_sub [(0, _)] ⟨rfl, trivial⟩ ?_
  refine ws_seqN Above_n1 Above_n2 rfl rfl rfl ?_
  refine ws_region rfl ?_
  refine wl_op (k := 0) (k' := 1) rfl rfl rfl (wo_box (l := [_, _, _, _, _]) rfl rfl rfl rfl rfl S ?_)
  intro gb1 w1 S1; clear S
  refine wl_op (k := 1) (k' := 2) rfl rfl rfl (wo_alloc (l := [_, _]) rfl rfl rfl zr71 rfl S1 ?_)
  intro gb2 w2 S2; clear S1
  refine wl_end rfl ?_
  refine nm_sub [(1, _), (2, _)] ⟨rfl, rfl, trivial⟩ ?_
  refine nm_thn ?_
  refine ws_seqN Above_n3 Above_n4 rfl rfl rfl ?_
  refine ws_seqN Above_n5 Above_n6 rfl rfl rfl ?_
  refine ws_region rfl ?_
  refine wl_op (k := 0) (k' := 1) rfl rfl rfl (wo_run rfl rfl (run_fieldAddr rfl rfl Try.underlying73 rfl (ce4) (nf4)) ?_)
  refine wl_op (k := 1) (k' := 2) rfl rfl rfl (wo_run rfl rfl (run_load1 rfl rfl Try.underlying4 rfl (S2.boxc (i := 1) rfl rfl)) ?_)
  refine wl_end rfl ?_
  refine nm_sub [(1, _), (2, _), (4, _)] ⟨rfl, rfl, rfl, trivial⟩ ?_
  refine nm_thn ?_
  refine ws_condN Above_n7 Above_n8 rfl rfl rfl rfl (fun hb4 => ?_) (fun hb4 => ?_)
  · refine ws_seqN Above_n9 Above_n10 rfl rfl rfl ?_
    refine ws_region rfl ?_
    refine wl_op (k := 0) (k' := 1) rfl rfl rfl (wo_run rfl rfl (run_fieldAddr rfl rfl Try.underlying73 rfl (ce3) (nf3)) ?_)
    refine wl_op (k := 1) (k' := 2) rfl rfl rfl (wo_run rfl rfl (run_load1 rfl rfl Try.underlying3 rfl (S2.boxc (i := 1) rfl rfl)) ?_)
    refine wl_op (k := 2) (k' := 3) rfl rfl rfl (wo_run rfl rfl (run_fieldAddr rfl rfl Try.underlying73 rfl (ce3) (nf3)) ?_)
    refine wl_op (k := 3) (k' := 4) rfl rfl rfl (wo_run rfl rfl (run_load1 rfl rfl Try.underlying3 rfl (S2.boxc (i := 1) rfl rfl)) ?_)
    refine wl_op (k := 4) (k' := 5) rfl rfl rfl (wo_run rfl rfl (run_buildA (l := [_, _]) (pl := [(0, 1), (1, 1)]) rfl rfl Try.underlying71 zr71 sz3 rfl rfl rfl) ?_)
    refine wl_op (k := 5) (k' := 6) rfl rfl rfl (wo_storeB (i := 0) (us := [_, _]) (l' := [_, _]) (H' := [_, _]) rfl rfl S2 rfl rfl rfl rfl sz71 rfl rfl rfl rfl ?_)
    intro w3 S3; clear S2
    refine wl_end rfl ?_
    refine nm_sub [(2, _)] ⟨rfl, trivial⟩ ?_
    refine nm_thn ?_
    refine ws_ret hC [_] rfl rfl ⟨⟨_, rfl, loadVarN (us := [_, _]) Try.underlying71 rfl sz71 (S3.boxcs (i := 0) rfl ⟨rfl, rfl, trivial⟩)⟩, trivial⟩ ?_
    exact ⟨_, rfl, (S3.pick [] [] (by decide) trivial), (by show Value.agg _ = _; unfold abv; first | rw [if_pos (by assumption)] | rw [if_neg (by simp [*])])⟩
  · refine ws_skip rfl ?_
    refine nm_sub [(1, _), (2, _)] ⟨rfl, rfl, trivial⟩ ?_
    refine nm_thn ?_
    refine ws_seqN Above_n11 Above_n12 rfl rfl rfl ?_
    refine ws_region rfl ?_
    refine wl_op (k := 0) (k' := 1) rfl rfl rfl (wo_run rfl rfl (run_fieldAddr rfl rfl Try.underlying73 rfl (ce3) (nf3)) ?_)
    refine wl_op (k := 1) (k' := 2) rfl rfl rfl (wo_run rfl rfl (run_load1 rfl rfl Try.underlying3 rfl (S2.boxc (i := 1) rfl rfl)) ?_)
    refine wl_op (k := 2) (k' := 3) rfl rfl rfl (wo_run rfl rfl (run_fieldAddr rfl rfl Try.underlying73 rfl (ce3) (nf3)) ?_)
    refine wl_op (k := 3) (k' := 4) rfl rfl rfl (wo_run rfl rfl (run_load1 rfl rfl Try.underlying3 rfl (S2.boxc (i := 1) rfl rfl)) ?_)
    refine wl_op (k := 4) (k' := 5) rfl rfl rfl (wo_run rfl rfl (run_buildA (l := [_, _]) (pl := [(0, 1), (1, 1)]) rfl rfl Try.underlying71 zr71 sz3 rfl rfl rfl) ?_)
    refine wl_op (k := 5) (k' := 6) rfl rfl rfl (wo_storeB (i := 0) (us := [_, _]) (l' := [_, _]) (H' := [_, _]) rfl rfl S2 rfl rfl rfl rfl sz71 rfl rfl rfl rfl ?_)
    intro w4 S4; clear S2
    refine wl_end rfl ?_
    refine nm_sub [(2, _)] ⟨rfl, trivial⟩ ?_
    refine nm_thn ?_
    refine ws_ret hC [_] rfl rfl ⟨⟨_, rfl, loadVarN (us := [_, _]) Try.underlying71 rfl sz71 (S4.boxcs (i := 0) rfl ⟨rfl, rfl, trivial⟩)⟩, trivial⟩ ?_
    exact ⟨_, rfl, (S4.pick [] [] (by decide) trivial), (by show Value.agg _ = _; unfold abv; first | rw [if_pos (by assumption)] | rw [if_neg (by simp [*])])⟩

noncomputable def Below_n0 : Code := Try.f93.body.getD .skip
noncomputable def Below_n1 : Code := cL Below_n0
noncomputable def Below_n2 : Code := cR Below_n0
noncomputable def Below_n3 : Code := cL Below_n2
noncomputable def Below_n4 : Code := cR Below_n2
set_option maxRecDepth 10000 in
theorem Below_q {w : World} {M : Hp} {X : Fr} (x : Cr) (S : SH w M X []) : Cq Try.prog 93 [.agg [.int .i64 x.a, .int .i64 x.b, .int .i64 x.c, .int .i64 x.d, .bool x.plus].toArray] w M X (fun u => u = .agg [.int .i64 x.a, .int .i64 x.c].toArray) := by
  unfold Cq
  refine calls_in (b := Below_n0) Try.func93 rfl Try.ntmps93 rfl (fun C hC => ?_)
  refine ws_sub [(0, _)] ⟨rfl, trivial⟩ ?_
  refine ws_seqN Below_n1 Below_n2 rfl rfl rfl ?_
  refine ws_region rfl ?_
  refine wl_op (k := 0) (k' := 1) rfl rfl rfl (wo_box (l := [_, _, _, _, _]) rfl rfl rfl rfl rfl S ?_)
  intro gb1 w1 S1; clear S
  refine wl_op (k := 1) (k' := 2) rfl rfl rfl (wo_alloc (l := [_, _]) rfl rfl rfl zr71 rfl S1 ?_)
  intro gb2 w2 S2; clear S1
  refine wl_end rfl ?_
  refine nm_sub [(1, _), (2, _)] ⟨rfl, rfl, trivial⟩ ?_
  refine nm_thn ?_
  refine ws_seqN Below_n3 Below_n4 rfl rfl rfl ?_
  refine ws_region rfl ?_
  refine wl_op (k := 0) (k' := 1) rfl rfl rfl (wo_run rfl rfl (run_fieldAddr rfl rfl Try.underlying73 rfl (ce3) (nf3)) ?_)
  refine wl_op (k := 1) (k' := 2) rfl rfl rfl (wo_run rfl rfl (run_load1 rfl rfl Try.underlying3 rfl (S2.boxc (i := 1) rfl rfl)) ?_)
  refine wl_op (k := 2) (k' := 3) rfl rfl rfl (wo_run rfl rfl (run_fieldAddr rfl rfl Try.underlying73 rfl (ce3) (nf3)) ?_)
  refine wl_op (k := 3) (k' := 4) rfl rfl rfl (wo_run rfl rfl (run_load1 rfl rfl Try.underlying3 rfl (S2.boxc (i := 1) rfl rfl)) ?_)
  refine wl_op (k := 4) (k' := 5) rfl rfl rfl (wo_run rfl rfl (run_buildA (l := [_, _]) (pl := [(0, 1), (1, 1)]) rfl rfl Try.underlying71 zr71 sz3 rfl rfl rfl) ?_)
  refine wl_op (k := 5) (k' := 6) rfl rfl rfl (wo_storeB (i := 0) (us := [_, _]) (l' := [_, _]) (H' := [_, _]) rfl rfl S2 rfl rfl rfl rfl sz71 rfl rfl rfl rfl ?_)
  intro w3 S3; clear S2
  refine wl_end rfl ?_
  refine nm_sub [(2, _)] ⟨rfl, trivial⟩ ?_
  refine nm_thn ?_
  refine ws_ret hC [_] rfl rfl ⟨⟨_, rfl, loadVarN (us := [_, _]) Try.underlying71 rfl sz71 (S3.boxcs (i := 0) rfl ⟨rfl, rfl, trivial⟩)⟩, trivial⟩ ?_
  exact ⟨_, rfl, (S3.pick [] [] (by decide) trivial), rfl⟩

noncomputable def Circ1_n0 : Code := Try.f91.body.getD .skip
noncomputable def Circ1_n1 : Code := cL Circ1_n0
noncomputable def Circ1_n2 : Code := cR Circ1_n0
noncomputable def Circ1_n3 : Code := cL Circ1_n2
noncomputable def Circ1_n4 : Code := cR Circ1_n2
noncomputable def Circ1_n5 : Code := cL Circ1_n4
noncomputable def Circ1_n6 : Code := cR Circ1_n4
noncomputable def Circ1_n7 : Code := cL Circ1_n6
noncomputable def Circ1_n8 : Code := cR Circ1_n6
noncomputable def Circ1_n9 : Code := cL Circ1_n7
noncomputable def Circ1_n10 : Code := cR Circ1_n7
noncomputable def Circ1_n11 : Code := cL Circ1_n10
noncomputable def Circ1_n12 : Code := cR Circ1_n10
noncomputable def Circ1_n13 : Code := cL Circ1_n11
noncomputable def Circ1_n14 : Code := cR Circ1_n11
noncomputable def Circ1_n15 : Code := cL Circ1_n8
noncomputable def Circ1_n16 : Code := cR Circ1_n8
set_option maxRecDepth 10000 in
theorem Circ1_q {w : World} {M : Hp} {X : Fr} (a : Int) (d : Dg) {gsh : Nat} {cA iA oA : Option Addr} {cc ic oc : Nat} {g0 : Nat} (hbx : BxM (M.un X.h) g0 75 [.pointer (some ⟨gsh, 0, none⟩)]) (hsb : BxM (M.un X.h) gsh 81 [.slice cA d.crs.length cc, .int .i64 d.loops, .slice iA (tabL d false (4 * d.crs.length)).length ic, .slice oA (tabL d true (4 * d.crs.length)).length oc]) (hsc : RdA cdCr (M.un X.h) cA cc d.crs) (hsi : RdA cdPl (M.un X.h) iA ic (tabL d false (4 * d.crs.length))) (hso : RdA cdPl (M.un X.h) oA oc (tabL d true (4 * d.crs.length))) (hn : d.crs.length ≤ 16) (hab : arcsB d = true) (hx : 1 ≤ a ∧ a ≤ 2 * (d.crs.length : Int)) (S : SH w M X []) : Cq Try.prog 91 [.int .i64 a, .pointer (some ⟨g0, 0, none⟩)] w M X (fun u => u = .int .i64 (nxtC d a)) := by
  unfold Cq
  obtain ⟨hE1, hE2, hE3, hE4, hE5⟩ := endD hab hx false
  have htf := tabL_len d false (4 * d.crs.length)
  have hx1 := hx.1
  have hx2 := hx.2
  refine calls_in (b := Circ1_n0) Try.func91 rfl Try.ntmps91 rfl (fun C hC => ?_)
  refine ws_sub [(0, _), (1, _)] ⟨rfl, rfl, trivial⟩ ?_
  refine ws_seqN Circ1_n1 Circ1_n2 rfl rfl rfl ?_
  refine ws_region rfl ?_
  refine wl_op (k := 0) (k' := 1) rfl rfl rfl (wo_run rfl rfl (run_assign rfl rfl) ?_)
  refine wl_end rfl ?_
  refine nm_sub [(0, _), (1, _)] ⟨rfl, rfl, trivial⟩ ?_
  refine nm_thn ?_
  refine ws_seqN Circ1_n3 Circ1_n4 rfl rfl rfl ?_
  refine ws_region rfl ?_
  refine wl_op (k := 0) (k' := 1) rfl rfl rfl (wo_run rfl rfl (run_load1 rfl rfl Try.underlying75 rfl (hbx.cell S.um rfl)) ?_)
  refine wl_op (k := 1) (k' := 2) rfl rfl rfl (wo_run rfl rfl (run_nilCheck rfl rfl) ?_)
  refine wl_op (k := 2) (k' := 3) rfl rfl rfl (wo_run rfl rfl (run_fieldAddr rfl rfl Try.underlying81 rfl (ce79) (nf79)) ?_)
  refine wl_op (k := 3) (k' := 4) rfl rfl rfl (wo_run rfl rfl (run_load1 rfl rfl Try.underlying79 rfl (hsb.cell S.um rfl)) ?_)
  refine wl_op (k := 4) (k' := 5) rfl rfl rfl (wo_run rfl rfl (run_move rfl rfl) ?_)
  refine wl_op (k := 5) (k' := 6) rfl rfl rfl (wo_run rfl rfl (run_indexM (C := cdPl) a.toNat rfl rfl rfl sl79 (by first | rfl | omega) hsi (by first | omega | (simp only [List.length_set, List.length_append, List.length_replicate, List.length_singleton, List.length_cons, List.length_nil]; omega))) ?_)
  refine wl_op (k := 6) (k' := 7) rfl rfl rfl (wo_run rfl rfl (run_loadN (us := [_, _]) rfl rfl Try.underlying84 rfl sz84 (hsi.cellsAt S.um (e := a.toNat) (by first | omega | (simp only [List.length_set, List.length_append, List.length_replicate, List.length_singleton, List.length_cons, List.length_nil]; omega)) (j := 0) ⟨rfl, rfl, trivial⟩)) ?_)
  refine wl_op (k := 7) (k' := 8) rfl rfl rfl (wo_alloc (l := [_, _]) rfl rfl rfl zr84 rfl S ?_)
  intro gb1 w1 S1; clear S
  refine wl_op (k := 8) (k' := 9) rfl rfl rfl (wo_storeB (i := 0) (us := [_, _]) (l' := [_, _]) (H' := [_]) rfl rfl S1 rfl rfl rfl rfl sz84 rfl rfl rfl rfl ?_)
  intro w2 S2; clear S1
  refine wl_end rfl ?_
  refine nm_sub [(1, _), (4, _)] ⟨rfl, rfl, trivial⟩ ?_
  refine nm_thn ?_
  refine ws_seqN Circ1_n5 Circ1_n6 rfl rfl rfl ?_
  rw [hE3] at S2
  refine ws_draw rfl (by kernel_rfl) S2 11 rfl ?_
  clear S2
  refine wa_take (i := 0) (d := 13) 10 rfl (by kernel_rfl) (by kernel_rfl) (by kernel_rfl) rfl rfl rfl (fun M1 N1 w3 hle1 S3 => .inl (run_load1 rfl rfl Try.underlying75 rfl ((hbx.mono (Hp.un_mono hle1 S3.mx)).cell S3.um rfl))) ?_
  refine wa_takeP (i := 1) (d := 14) 9 rfl (by kernel_rfl) (by kernel_rfl) (by kernel_rfl) rfl rfl rfl (fun w4 => run_nilCheck rfl rfl) ?_
  refine wa_takeP (i := 2) (d := 15) 8 rfl (by kernel_rfl) (by kernel_rfl) (by kernel_rfl) rfl rfl rfl (fun w5 => run_fieldAddr rfl rfl Try.underlying81 rfl (ce27) (nf27)) ?_
  refine wa_takeP (i := 3) (d := 16) 7 rfl (by kernel_rfl) (by kernel_rfl) (by kernel_rfl) rfl rfl rfl (fun w6 => run_fieldAddr rfl rfl Try.underlying27 rfl (ce25) (nf25)) ?_
  refine wa_take (i := 4) (d := 17) 6 rfl (by kernel_rfl) (by kernel_rfl) (by kernel_rfl) rfl rfl rfl (fun M5 N5 w7 hle5 S7 => .inl (run_load1 rfl rfl Try.underlying25 rfl ((hsb.mono (Hp.un_mono hle5 S7.mx)).cell S7.um rfl))) ?_
  refine wa_takeP (i := 5) (d := 18) 5 rfl (by kernel_rfl) (by kernel_rfl) (by kernel_rfl) rfl rfl rfl (fun w8 => run_fieldAddr rfl rfl Try.underlying84 rfl (ce3) (nf3)) ?_
  refine wa_take (i := 6) (d := 19) 4 rfl (by kernel_rfl) (by kernel_rfl) (by kernel_rfl) rfl rfl rfl (fun M7 N7 w9 hle7 S9 => .inl (run_load1 rfl rfl Try.underlying3 rfl (S9.suf.boxc (i := 0) rfl rfl))) ?_
  refine wa_take (i := 7) (d := 20) 3 rfl (by kernel_rfl) (by kernel_rfl) (by kernel_rfl) rfl rfl rfl (fun M8 N8 w10 hle8 S10 => .inl (run_indexM (C := cdCr) ((endOf d a false).1) rfl rfl rfl sl25 (by first | rfl | omega) (hsc.mono (Hp.un_mono hle8 S10.mx)) (by first | omega | (simp only [List.length_set, List.length_append, List.length_replicate, List.length_singleton, List.length_cons, List.length_nil]; omega)))) ?_
  refine wa_take (i := 8) (d := 21) 2 rfl (by kernel_rfl) (by kernel_rfl) (by kernel_rfl) rfl rfl rfl (fun M9 N9 w11 hle9 S11 => .inl (run_loadN (us := [_, _, _, _, _]) rfl rfl Try.underlying73 rfl sz73 ((hsc.mono (Hp.un_mono hle9 S11.mx)).cellsAt S11.um (e := (endOf d a false).1) (by first | omega | (simp only [List.length_set, List.length_append, List.length_replicate, List.length_singleton, List.length_cons, List.length_nil]; omega)) (j := 0) ⟨rfl, rfl, rfl, rfl, rfl, trivial⟩))) ?_
  refine wa_only (i := 9) 1 rfl (by kernel_rfl) rfl rfl (fun w13 S13 => ?_)
  refine (wo_alloc (l := [_, _, _, _, _]) rfl rfl rfl zr73 rfl S13 ?_)
  intro gb2 w14 S14; clear S13
  refine LeftW.grow [_] (Hp.le_refl _) S14 ?_; clear S14
  change WA _ _ _ _ _ _ _ _ _ _ _ _ [_, _]
  refine wa_only (i := 10) 0 rfl (by kernel_rfl) rfl rfl (fun w16 S16 => ?_)
  refine (wo_storeB (i := 0) (us := [_, _, _, _, _]) (l' := [_, _, _, _, _]) (H' := [_, _]) rfl rfl S16 rfl rfl rfl rfl sz73 rfl rfl rfl rfl ?_)
  intro w17 S17; clear S16
  refine LeftW.grow [_] (Hp.le_refl _) S17 ?_; clear S17
  change WA _ _ _ _ _ _ _ _ _ _ _ _ [_, _]
  refine wa_end (by kernel_rfl) (fun w18 S18 => ?_)
  refine nm_sub [(4, _), (5, _)] ⟨rfl, rfl, trivial⟩ ?_
  refine nm_thn ?_
  refine ws_seqN Circ1_n7 Circ1_n8 rfl rfl rfl ?_
  refine ws_seqN Circ1_n9 Circ1_n10 rfl rfl rfl ?_
  refine ws_region rfl ?_
  refine wl_op (k := 0) (k' := 1) rfl rfl rfl (wo_run rfl rfl (run_fieldAddr rfl rfl Try.underlying84 rfl (ce3) (nf3)) ?_)
  refine wl_op (k := 1) (k' := 2) rfl rfl rfl (wo_run rfl rfl (run_load1 rfl rfl Try.underlying3 rfl (S18.boxc (i := 1) rfl rfl)) ?_)
  refine wl_op (k := 2) (k' := 3) rfl rfl rfl (wo_run rfl rfl (run_eql rfl rfl rfl) ?_)
  refine wl_end rfl ?_
  refine nm_sub [(5, _), (24, _)] ⟨rfl, rfl, trivial⟩ ?_
  refine nm_thn ?_
  refine ws_condN Circ1_n11 Circ1_n12 rfl rfl rfl rfl (fun hb24 => ?_) (fun hb24 => ?_)
  · have hb24 := of_decide_eq_true hb24
    refine ws_seqN Circ1_n13 Circ1_n14 rfl rfl rfl ?_
    refine ws_region rfl ?_
    refine wl_op (k := 0) (k' := 1) rfl rfl rfl (wo_run rfl rfl (run_loadN (us := [_, _, _, _, _]) rfl rfl Try.underlying73 rfl sz73 (S18.boxcs (i := 0) rfl ⟨rfl, rfl, rfl, rfl, rfl, trivial⟩)) ?_)
    refine wl_op (k := 1) (k' := 2) rfl rfl rfl (wo_cq rfl rfl rfl rfl rfl rfl rfl cf92 S18 (Above_q (ga d.crs ((endOf d a false).1))  S18.lend) ?_)
    rintro _ w19 S19 rfl; clear S18
    refine wl_op (k := 2) (k' := 3) rfl rfl rfl (wo_run rfl rfl (run_index1 (e := 1) rfl rfl rfl Try.underlying71 Try.underlying3 rfl sz3 (by first | rfl | omega) (by first | omega | (simp only [List.length_set, List.length_append, List.length_replicate, List.length_singleton, List.length_cons, List.length_nil]; omega)) rfl) ?_)
    refine wl_op (k := 3) (k' := 4) rfl rfl rfl (wo_run rfl rfl (run_assign rfl rfl) ?_)
    refine wl_end rfl ?_
    refine nm_sub [(3, _)] ⟨rfl, trivial⟩ ?_
    refine nm_thn ?_
    refine ws_ret hC [_] rfl rfl ⟨rfl, trivial⟩ ?_
    exact ⟨_, rfl, (S19.pick [] [] (by decide) trivial), (by show Value.int _ _ = _; unfold nxtC; first | rw [if_pos (by omega)] | rw [if_neg (by omega)])⟩
  · have hb24 := of_decide_eq_false hb24
    refine ws_skip rfl ?_
    refine nm_sub [(5, _)] ⟨rfl, trivial⟩ ?_
    refine nm_thn ?_
    refine ws_seqN Circ1_n15 Circ1_n16 rfl rfl rfl ?_
    refine ws_region rfl ?_
    refine wl_op (k := 0) (k' := 1) rfl rfl rfl (wo_run rfl rfl (run_loadN (us := [_, _, _, _, _]) rfl rfl Try.underlying73 rfl sz73 (S18.boxcs (i := 0) rfl ⟨rfl, rfl, rfl, rfl, rfl, trivial⟩)) ?_)
    refine wl_op (k := 1) (k' := 2) rfl rfl rfl (wo_cq rfl rfl rfl rfl rfl rfl rfl cf93 S18 (Below_q (ga d.crs ((endOf d a false).1))  S18.lend) ?_)
    rintro _ w20 S20 rfl; clear S18
    refine wl_op (k := 2) (k' := 3) rfl rfl rfl (wo_run rfl rfl (run_index1 (e := 1) rfl rfl rfl Try.underlying71 Try.underlying3 rfl sz3 (by first | rfl | omega) (by first | omega | (simp only [List.length_set, List.length_append, List.length_replicate, List.length_singleton, List.length_cons, List.length_nil]; omega)) rfl) ?_)
    refine wl_op (k := 3) (k' := 4) rfl rfl rfl (wo_run rfl rfl (run_assign rfl rfl) ?_)
    refine wl_end rfl ?_
    refine nm_sub [(3, _)] ⟨rfl, trivial⟩ ?_
    refine nm_thn ?_
    refine ws_ret hC [_] rfl rfl ⟨rfl, trivial⟩ ?_
    exact ⟨_, rfl, (S20.pick [] [] (by decide) trivial), (by show Value.int _ _ = _; unfold nxtC; first | rw [if_pos (by omega)] | rw [if_neg (by omega)])⟩

theorem Circ1_U {w : World} {M N : Hp} {Y : Fr} {d : Dg} {gsh g0 : Nat} {cA iA oA : Option Addr} {cc ic oc : Nat} (hbx : BxM M g0 75 [.pointer (some ⟨gsh, 0, none⟩)]) (hsb : BxM M gsh 81 [.slice cA d.crs.length cc, .int .i64 d.loops, .slice iA (tabL d false (4 * d.crs.length)).length ic, .slice oA (tabL d true (4 * d.crs.length)).length oc]) (hsc : RdA cdCr M cA cc d.crs) (hsi : RdA cdPl M iA ic (tabL d false (4 * d.crs.length))) (hso : RdA cdPl M oA oc (tabL d true (4 * d.crs.length))) (hn : d.crs.length ≤ 16) (hab : arcsB d = true) {x : Nat} (h1 : 1 ≤ x) (h2 : x ≤ 2 * d.crs.length) (S : SH w N Y []) (hl : M.le (N.un Y.h)) :
    Cq Try.prog 91 ([] ++ ([.int .i64 (x : Int)] ++ [.pointer (some ⟨g0, 0, none⟩)])) w N Y (fun u => u = .int .i64 (circN d x : Int)) := by
  have e := (circN_eq hab h1 h2).1
  rw [← e]
  exact Circ1_q (x : Int) d (hbx.mono hl) (hsb.mono hl) (hsc.mono hl) (hsi.mono hl) (hso.mono hl) hn hab (by omega) S

noncomputable def Circles_n0 : Code := Try.f76.body.getD .skip
noncomputable def Circles_n1 : Code := cL Circles_n0
noncomputable def Circles_n2 : Code := cR Circles_n0
noncomputable def Circles_n3 : Code := cL Circles_n2
noncomputable def Circles_n4 : Code := cR Circles_n2
set_option maxRecDepth 10000 in
theorem Circles_t {w : World} {M : Hp} {X : Fr} (d : Dg) {gsh : Nat} {cA iA oA : Option Addr} {cc ic oc : Nat} (hsb : BxM (M.un X.h) gsh 81 [.slice cA d.crs.length cc, .int .i64 d.loops, .slice iA (tabL d false (4 * d.crs.length)).length ic, .slice oA (tabL d true (4 * d.crs.length)).length oc]) (hsc : RdA cdCr (M.un X.h) cA cc d.crs) (hsi : RdA cdPl (M.un X.h) iA ic (tabL d false (4 * d.crs.length))) (hso : RdA cdPl (M.un X.h) oA oc (tabL d true (4 * d.crs.length))) (hn : d.crs.length ≤ 16) (hab : arcsB d = true) (S : SH w M X []) : Ct Try.prog 76 [.pointer (some ⟨gsh, 0, none⟩)] w M X (fun u N => ∃ A c vs, u = .slice A vs.length c ∧ RdA (cdV 44) N A c vs ∧ Rd2 cdInt N vs (circL d)) := by
  unfold Ct
  refine calls_in (b := Circles_n0) Try.func76 rfl Try.ntmps76 rfl (fun C hC => ?_)
  refine ws_sub [(0, _)] ⟨rfl, trivial⟩ ?_
  refine ws_seqN Circles_n1 Circles_n2 rfl rfl rfl ?_
  refine ws_region rfl ?_
  refine wl_op (k := 0) (k' := 1) rfl rfl rfl (wo_box (l := [_]) rfl rfl rfl rfl rfl S ?_)
  intro gb1 w1 S1; clear S
  refine wl_op (k := 1) (k' := 2) rfl rfl rfl (wo_run rfl rfl (run_assign rfl rfl) ?_)
  refine wl_end rfl ?_
  refine nm_sub [(1, _)] ⟨rfl, trivial⟩ ?_
  refine nm_thn ?_
  refine ws_seqN Circles_n3 Circles_n4 rfl rfl rfl ?_
  refine ws_region rfl ?_
  refine wl_op (k := 0) (k' := 1) rfl rfl rfl (wo_run rfl rfl (run_load1 rfl rfl Try.underlying75 rfl (S1.boxc (i := 0) rfl rfl)) ?_)
  refine wl_op (k := 1) (k' := 2) rfl rfl rfl (wo_run rfl rfl (run_makeFunc (vs := [_]) rfl rfl rfl rfl) ?_)
  refine wl_op (k := 2) (k' := 3) rfl rfl rfl (wo_ct rfl rfl rfl rfl rfl rfl rfl cf82 S1 (Rings_t d 91 [] [.pointer (some ⟨gb1, 0, none⟩)] (circN d) (hsb.mono S1.un_XH) (hsc.mono S1.un_XH) (hsi.mono S1.un_XH) (hso.mono S1.un_XH) cf91 (fun x h1 h2 => (circN_eq hab h1 h2).2) (fun w9 N9 Y9 hl9 S9 x9 h1 h2 => Circ1_U (S1.boxM (i := 0) rfl) ((hsb.mono S1.un_XH)) ((hsc.mono S1.un_XH)) ((hsi.mono S1.un_XH)) ((hso.mono S1.un_XH)) hn hab h1 h2 S9 hl9) hn S1.lend) ?_)
  intro vw2 w2 M1 hle1 S2 hRw2; clear S1
  replace hsb := hsb.mono (Hp.un_mono hle1 S2.mx)
  replace hsc := hsc.mono (Hp.un_mono hle1 S2.mx)
  replace hsi := hsi.mono (Hp.un_mono hle1 S2.mx)
  replace hso := hso.mono (Hp.un_mono hle1 S2.mx)
  obtain ⟨A1, c1, vs1, rfl, hr1, hd1⟩ := hRw2
  refine wl_op (k := 3) (k' := 4) rfl rfl rfl (wo_run rfl rfl (run_assign rfl rfl) ?_)
  refine wl_end rfl ?_
  refine nm_sub [(2, _)] ⟨rfl, trivial⟩ ?_
  refine nm_thn ?_
  refine ws_ret hC [_] rfl rfl ⟨rfl, trivial⟩ ?_
  refine ⟨_, rfl, _, hle1, (S2.pick [] [] (by decide) trivial), ?_⟩
  exact ⟨_, _, _, rfl, hr1, hd1⟩

end Go.Proofs.Ytlbpgnimpcflaaa
