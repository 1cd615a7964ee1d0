/- Walks printed by eng.py. -/
import Derived.Test.YtlbpgnimpcflaaaF1
set_option linter.unusedSimpArgs false
set_option linter.unusedVariables false
namespace Go.Proofs.Ytlbpgnimpcflaaa
open Go.ChangeShapes Go.WideShapes Go.ChangeAt Go.RowKit
noncomputable def Head_n0 : Code := Try.f88.body.getD .skip
noncomputable def Head_n1 : Code := cL Head_n0
noncomputable def Head_n2 : Code := cR Head_n0
noncomputable def Head_n3 : Code := cL Head_n2
noncomputable def Head_n4 : Code := cR Head_n2
noncomputable def Head_n5 : Code := cL Head_n3
noncomputable def Head_n6 : Code := cR Head_n3
noncomputable def Head_n7 : Code := cL Head_n6
noncomputable def Head_n8 : Code := cR Head_n6
noncomputable def Head_n9 : Code := cL Head_n7
noncomputable def Head_n10 : Code := cR Head_n7
noncomputable def Head_n11 : Code := cL Head_n4
noncomputable def Head_n12 : Code := cR Head_n4
set_option maxRecDepth 10000 in
theorem Head_q {w : World} {M : Hp} {X : Fr} (d : Dg) {gsh : Nat} {cA iA oA : Option Addr} {cc ic oc : Nat} (x : Da) (hsb : BxM (M.un X.h) gsh 81 [.slice cA d.crs.length cc, .int .i64 d.loops, .slice iA (tabL d false (4 * d.crs.length)).length ic, .slice oA (tabL d true (4 * d.crs.length)).length oc]) (hsc : RdA cdCr (M.un X.h) cA cc d.crs) (hsi : RdA cdPl (M.un X.h) iA ic (tabL d false (4 * d.crs.length))) (hso : RdA cdPl (M.un X.h) oA oc (tabL d true (4 * d.crs.length))) (hn : d.crs.length ≤ 16) (hab : arcsB d = true) (hx : okD d x) (S : SH w M X []) : Cq Try.prog 88 [.pointer (some ⟨gsh, 0, none⟩), .agg [.int .i64 x.a, .bool x.b].toArray] w M X (fun u => u = .agg (plF (endOf d x.a x.b)).toArray) := by
  unfold Cq
  obtain ⟨hE1, hE2, hE3, hE4, hE5⟩ := endD hab hx x.b
  have htl : ∀ b, (tabL d b (4 * d.crs.length)).length = 2 * d.crs.length + 1 := fun b => tabL_len d b _
  have htf := htl false
  have htt := htl true
  have hx1 := hx.1
  have hx2 := hx.2
  refine calls_in (b := Head_n0) Try.func88 rfl Try.ntmps88 rfl (fun C hC => ?_)
  refine ws_sub [(0, _), (1, _)] ⟨rfl, rfl, trivial⟩ ?_
  refine ws_seqN Head_n1 Head_n2 rfl rfl rfl ?_
  refine ws_region rfl ?_
  refine wl_op (k := 0) (k' := 1) rfl rfl rfl (wo_box (l := [_, _]) rfl rfl rfl rfl rfl S ?_)
  intro gb1 w1 S1; clear S
  refine wl_op (k := 1) (k' := 2) rfl rfl rfl (wo_alloc (l := [_, _]) rfl rfl rfl zr84 rfl S1 ?_)
  intro gb2 w2 S2; clear S1
  refine wl_end rfl ?_
  refine nm_sub [(0, _), (3, _), (4, _)] ⟨rfl, rfl, rfl, trivial⟩ ?_
  refine nm_thn ?_
  refine ws_seqN Head_n3 Head_n4 rfl rfl rfl ?_
  refine ws_seqN Head_n5 Head_n6 rfl rfl rfl ?_
  refine ws_region rfl ?_
  refine wl_op (k := 0) (k' := 1) rfl rfl rfl (wo_run rfl rfl (run_fieldAddr rfl rfl Try.underlying102 rfl (ce4) (nf4)) ?_)
  refine wl_op (k := 1) (k' := 2) rfl rfl rfl (wo_run rfl rfl (run_load1 rfl rfl Try.underlying4 rfl (S2.boxc (i := 1) rfl rfl)) ?_)
  refine wl_end rfl ?_
  refine nm_sub [(0, _), (3, _), (4, _), (6, _)] ⟨rfl, rfl, rfl, rfl, trivial⟩ ?_
  refine nm_thn ?_
  refine ws_condN Head_n7 Head_n8 rfl rfl rfl rfl (fun hb6 => ?_) (fun hb6 => ?_)
  · refine ws_seqN Head_n9 Head_n10 rfl rfl rfl ?_
    refine ws_draw rfl (by kernel_rfl) S2 9 rfl ?_
    clear S2
    refine wa_takeP (i := 0) (d := 7) 8 rfl (by kernel_rfl) (by kernel_rfl) (by kernel_rfl) rfl rfl rfl (fun w3 => run_move rfl rfl) ?_
    refine wa_takeP (i := 1) (d := 8) 7 rfl (by kernel_rfl) (by kernel_rfl) (by kernel_rfl) rfl rfl rfl (fun w4 => run_nilCheck rfl rfl) ?_
    refine wa_takeP (i := 2) (d := 9) 6 rfl (by kernel_rfl) (by kernel_rfl) (by kernel_rfl) rfl rfl rfl (fun w5 => run_fieldAddr rfl rfl Try.underlying81 rfl (ce79) (nf79)) ?_
    refine wa_take (i := 3) (d := 10) 5 rfl (by kernel_rfl) (by kernel_rfl) (by kernel_rfl) rfl rfl rfl (fun M4 N4 w6 hle4 S6 => .inl (run_load1 rfl rfl Try.underlying79 rfl ((hsb.mono (Hp.un_mono hle4 S6.mx)).cell S6.um rfl))) ?_
    refine wa_takeP (i := 4) (d := 11) 4 rfl (by kernel_rfl) (by kernel_rfl) (by kernel_rfl) rfl rfl rfl (fun w7 => run_fieldAddr rfl rfl Try.underlying102 rfl (ce3) (nf3)) ?_
    refine wa_take (i := 5) (d := 12) 3 rfl (by kernel_rfl) (by kernel_rfl) (by kernel_rfl) rfl rfl rfl (fun M6 N6 w8 hle6 S8 => .inl (run_load1 rfl rfl Try.underlying3 rfl (S8.suf.boxc (i := 1) rfl rfl))) ?_
    refine wa_take (i := 6) (d := 13) 2 rfl (by kernel_rfl) (by kernel_rfl) (by kernel_rfl) rfl rfl rfl (fun M7 N7 w9 hle7 S9 => .inl (run_indexM (C := cdPl) x.a.toNat rfl rfl rfl sl79 (by first | rfl | omega) (hso.mono (Hp.un_mono hle7 S9.mx)) (by first | omega | (simp only [List.length_set, List.length_append, List.length_replicate, List.length_singleton, List.length_cons, List.length_nil]; omega)))) ?_
    refine wa_take (i := 7) (d := 14) 1 rfl (by kernel_rfl) (by kernel_rfl) (by kernel_rfl) rfl rfl rfl (fun M8 N8 w10 hle8 S10 => .inl (run_loadN (us := [_, _]) rfl rfl Try.underlying84 rfl sz84 ((hso.mono (Hp.un_mono hle8 S10.mx)).cellsAt S10.um (e := x.a.toNat) (by first | omega | (simp only [List.length_set, List.length_append, List.length_replicate, List.length_singleton, List.length_cons, List.length_nil]; omega)) (j := 0) ⟨rfl, rfl, trivial⟩))) ?_
    refine wa_only (i := 8) 0 rfl (by kernel_rfl) rfl rfl (fun w12 S12 => ?_)
    refine (wo_storeB (i := 0) (us := [_, _]) (l' := [_, _]) (H' := [_, _]) rfl rfl S12 rfl rfl rfl rfl sz84 rfl rfl rfl rfl ?_)
    intro w13 S13; clear S12
    refine LeftW.turn (by kernel_rfl) S13 ?_; clear S13
    change WA _ _ _ _ _ _ _ _ _ _ _ _ [_, _]
    refine wa_end (by kernel_rfl) (fun w14 S14 => ?_)
    refine nm_sub [(4, _)] ⟨rfl, trivial⟩ ?_
    refine nm_thn ?_
    refine ws_ret hC [_] rfl rfl ⟨⟨_, rfl, loadVarN (us := [_, _]) Try.underlying84 rfl sz84 (S14.boxcs (i := 0) rfl ⟨rfl, rfl, trivial⟩)⟩, trivial⟩ ?_
    exact ⟨_, rfl, (S14.pick [] [] (by decide) trivial), (by rw [hb6] at hE3; show Value.agg (plF (ga (tabL d _ (4 * d.crs.length)) x.a.toNat)).toArray = _; rw [hE3, hb6])⟩
  · refine ws_skip rfl ?_
    refine nm_sub [(0, _), (3, _), (4, _)] ⟨rfl, rfl, rfl, trivial⟩ ?_
    refine nm_thn ?_
    refine ws_seqN Head_n11 Head_n12 rfl rfl rfl ?_
    refine ws_draw rfl (by kernel_rfl) S2 9 rfl ?_
    clear S2
    refine wa_takeP (i := 0) (d := 15) 8 rfl (by kernel_rfl) (by kernel_rfl) (by kernel_rfl) rfl rfl rfl (fun w15 => run_move rfl rfl) ?_
    refine wa_takeP (i := 1) (d := 16) 7 rfl (by kernel_rfl) (by kernel_rfl) (by kernel_rfl) rfl rfl rfl (fun w16 => run_nilCheck rfl rfl) ?_
    refine wa_takeP (i := 2) (d := 17) 6 rfl (by kernel_rfl) (by kernel_rfl) (by kernel_rfl) rfl rfl rfl (fun w17 => run_fieldAddr rfl rfl Try.underlying81 rfl (ce79) (nf79)) ?_
    refine wa_take (i := 3) (d := 18) 5 rfl (by kernel_rfl) (by kernel_rfl) (by kernel_rfl) rfl rfl rfl (fun M13 N13 w18 hle13 S18 => .inl (run_load1 rfl rfl Try.underlying79 rfl ((hsb.mono (Hp.un_mono hle13 S18.mx)).cell S18.um rfl))) ?_
    refine wa_takeP (i := 4) (d := 19) 4 rfl (by kernel_rfl) (by kernel_rfl) (by kernel_rfl) rfl rfl rfl (fun w19 => run_fieldAddr rfl rfl Try.underlying102 rfl (ce3) (nf3)) ?_
    refine wa_take (i := 5) (d := 20) 3 rfl (by kernel_rfl) (by kernel_rfl) (by kernel_rfl) rfl rfl rfl (fun M15 N15 w20 hle15 S20 => .inl (run_load1 rfl rfl Try.underlying3 rfl (S20.suf.boxc (i := 1) rfl rfl))) ?_
    refine wa_take (i := 6) (d := 21) 2 rfl (by kernel_rfl) (by kernel_rfl) (by kernel_rfl) rfl rfl rfl (fun M16 N16 w21 hle16 S21 => .inl (run_indexM (C := cdPl) x.a.toNat rfl rfl rfl sl79 (by first | rfl | omega) (hsi.mono (Hp.un_mono hle16 S21.mx)) (by first | omega | (simp only [List.length_set, List.length_append, List.length_replicate, List.length_singleton, List.length_cons, List.length_nil]; omega)))) ?_
    refine wa_take (i := 7) (d := 22) 1 rfl (by kernel_rfl) (by kernel_rfl) (by kernel_rfl) rfl rfl rfl (fun M17 N17 w22 hle17 S22 => .inl (run_loadN (us := [_, _]) rfl rfl Try.underlying84 rfl sz84 ((hsi.mono (Hp.un_mono hle17 S22.mx)).cellsAt S22.um (e := x.a.toNat) (by first | omega | (simp only [List.length_set, List.length_append, List.length_replicate, List.length_singleton, List.length_cons, List.length_nil]; omega)) (j := 0) ⟨rfl, rfl, trivial⟩))) ?_
    refine wa_only (i := 8) 0 rfl (by kernel_rfl) rfl rfl (fun w24 S24 => ?_)
    refine (wo_storeB (i := 0) (us := [_, _]) (l' := [_, _]) (H' := [_, _]) rfl rfl S24 rfl rfl rfl rfl sz84 rfl rfl rfl rfl ?_)
    intro w25 S25; clear S24
    refine LeftW.turn (by kernel_rfl) S25 ?_; clear S25
    change WA _ _ _ _ _ _ _ _ _ _ _ _ [_, _]
    refine wa_end (by kernel_rfl) (fun w26 S26 => ?_)
    refine nm_sub [(4, _)] ⟨rfl, trivial⟩ ?_
    refine nm_thn ?_
    refine ws_ret hC [_] rfl rfl ⟨⟨_, rfl, loadVarN (us := [_, _]) Try.underlying84 rfl sz84 (S26.boxcs (i := 0) rfl ⟨rfl, rfl, trivial⟩)⟩, trivial⟩ ?_
    exact ⟨_, rfl, (S26.pick [] [] (by decide) trivial), (by rw [hb6] at hE3; show Value.agg (plF (ga (tabL d _ (4 * d.crs.length)) x.a.toNat)).toArray = _; rw [hE3, hb6])⟩

noncomputable def Left_n0 : Code := Try.f87.body.getD .skip
noncomputable def Left_n1 : Code := cL Left_n0
noncomputable def Left_n2 : Code := cR Left_n0
noncomputable def Left_n3 : Code := cL Left_n2
noncomputable def Left_n4 : Code := cR Left_n2
noncomputable def Left_n5 : Code := cL Left_n4
noncomputable def Left_n6 : Code := cR Left_n4
noncomputable def Left_n7 : Code := cL Left_n6
noncomputable def Left_n8 : Code := cR Left_n6
set_option maxRecDepth 10000 in
theorem Left_q {w : World} {M : Hp} {X : Fr} (d : Dg) {gsh : Nat} {cA iA oA : Option Addr} {cc ic oc : Nat} (x : Da) (hsb : BxM (M.un X.h) gsh 81 [.slice cA d.crs.length cc, .int .i64 d.loops, .slice iA (tabL d false (4 * d.crs.length)).length ic, .slice oA (tabL d true (4 * d.crs.length)).length oc]) (hsc : RdA cdCr (M.un X.h) cA cc d.crs) (hsi : RdA cdPl (M.un X.h) iA ic (tabL d false (4 * d.crs.length))) (hso : RdA cdPl (M.un X.h) oA oc (tabL d true (4 * d.crs.length))) (hn : d.crs.length ≤ 16) (hab : arcsB d = true) (hx : okD d x) (S : SH w M X []) : Cq Try.prog 87 [.pointer (some ⟨gsh, 0, none⟩), .agg [.int .i64 x.a, .bool x.b].toArray] w M X (fun u => u = .agg (daF (leftD d x)).toArray) := by
  unfold Cq
  obtain ⟨hE1, hE2, hE3, hE4, hE5⟩ := endD hab hx x.b
  have htl : ∀ b, (tabL d b (4 * d.crs.length)).length = 2 * d.crs.length + 1 := fun b => tabL_len d b _
  have htf := htl false
  have htt := htl true
  have hx1 := hx.1
  have hx2 := hx.2
  refine calls_in (b := Left_n0) Try.func87 rfl Try.ntmps87 rfl (fun C hC => ?_)
  refine ws_sub [(0, _), (1, _)] ⟨rfl, rfl, trivial⟩ ?_
  refine ws_seqN Left_n1 Left_n2 rfl rfl rfl ?_
  refine ws_region rfl ?_
  refine wl_op (k := 0) (k' := 1) rfl rfl rfl (wo_box (l := [_, _]) rfl rfl rfl rfl rfl S ?_)
  intro gb1 w1 S1; clear S
  refine wl_op (k := 1) (k' := 2) rfl rfl rfl (wo_alloc (l := [_, _]) rfl rfl rfl zr102 rfl S1 ?_)
  intro gb2 w2 S2; clear S1
  refine wl_end rfl ?_
  refine nm_sub [(0, _), (3, _), (4, _)] ⟨rfl, rfl, rfl, trivial⟩ ?_
  refine nm_thn ?_
  refine ws_seqN Left_n3 Left_n4 rfl rfl rfl ?_
  refine ws_region rfl ?_
  refine wl_op (k := 0) (k' := 1) rfl rfl rfl (wo_run rfl rfl (run_move rfl rfl) ?_)
  refine wl_op (k := 1) (k' := 2) rfl rfl rfl (wo_run rfl rfl (run_loadN (us := [_, _]) rfl rfl Try.underlying102 rfl sz102 (S2.boxcs (i := 1) rfl ⟨rfl, rfl, trivial⟩)) ?_)
  refine wl_op (k := 2) (k' := 3) rfl rfl rfl (wo_cq rfl rfl rfl rfl rfl rfl rfl cf88 S2 (Head_q d x (hsb.mono S2.un_XH) (hsc.mono S2.un_XH) (hsi.mono S2.un_XH) (hso.mono S2.un_XH) (by first | assumption | omega) hab (by first | assumption | omega) S2.lend) ?_)
  rintro _ w3 S3 rfl; clear S2
  refine wl_op (k := 3) (k' := 4) rfl rfl rfl (wo_alloc (l := [_, _]) rfl rfl rfl zr84 rfl S3 ?_)
  intro gb3 w4 S4; clear S3
  refine wl_op (k := 4) (k' := 5) rfl rfl rfl (wo_storeB (i := 0) (us := [_, _]) (l' := [_, _]) (H' := [_, _, _]) rfl rfl S4 rfl rfl rfl rfl sz84 rfl rfl rfl rfl ?_)
  intro w5 S5; clear S4
  refine wl_end rfl ?_
  refine nm_sub [(0, _), (4, _), (5, _)] ⟨rfl, rfl, rfl, trivial⟩ ?_
  refine nm_thn ?_
  refine ws_seqN Left_n5 Left_n6 rfl rfl rfl ?_
  refine ws_region rfl ?_
  refine wl_op (k := 0) (k' := 1) rfl rfl rfl (wo_run rfl rfl (run_fieldAddr rfl rfl Try.underlying84 rfl (ce3) (nf3)) ?_)
  refine wl_op (k := 1) (k' := 2) rfl rfl rfl (wo_run rfl rfl (run_load1 rfl rfl Try.underlying3 rfl (S5.boxc (i := 0) rfl rfl)) ?_)
  refine wl_op (k := 2) (k' := 3) rfl rfl rfl (wo_run rfl rfl (run_fieldAddr rfl rfl Try.underlying84 rfl (ce3) (nf3)) ?_)
  refine wl_op (k := 3) (k' := 4) rfl rfl rfl (wo_run rfl rfl (run_load1 rfl rfl Try.underlying3 rfl (S5.boxc (i := 0) rfl rfl)) ?_)
  refine wl_op (k := 4) (k' := 5) rfl rfl rfl (wo_run rfl rfl (run_add rfl rfl rfl (by first | omega | (simp only [List.length_set, List.length_append, List.length_replicate, List.length_singleton, List.length_cons, List.length_nil]; omega))) ?_)
  refine wl_op (k := 5) (k' := 6) rfl rfl rfl (wo_run rfl rfl (run_sub rfl rfl rfl (by first | omega | (simp only [List.length_set, List.length_append, List.length_replicate, List.length_singleton, List.length_cons, List.length_nil]; omega))) ?_)
  refine wl_op (k := 6) (k' := 7) rfl rfl rfl (wo_run rfl rfl (run_rem rfl rfl rfl (by first | omega | (simp only [List.length_set, List.length_append, List.length_replicate, List.length_singleton, List.length_cons, List.length_nil]; omega))) ?_)
  refine wl_eq 16 (.int .i64 ((((endOf d x.a x.b).2 + 3) % 4 : Nat) : Int)) rfl (int_eq (by omega)) ?_
  have hlt4 : ((endOf d x.a x.b).2 + 3) % 4 < 4 := Nat.mod_lt _ (by decide)
  refine wl_op (k := 7) (k' := 8) rfl rfl rfl (wo_run rfl rfl (run_build (l := [_, _]) rfl rfl st84 rfl rfl) ?_)
  refine wl_op (k := 8) (k' := 9) rfl rfl rfl (wo_alloc (l := [_, _]) rfl rfl rfl zr84 rfl S5 ?_)
  intro gb4 w6 S6; clear S5
  refine wl_op (k := 9) (k' := 10) rfl rfl rfl (wo_storeB (i := 0) (us := [_, _]) (l' := [_, _]) (H' := [_, _, _, _]) rfl rfl S6 rfl rfl rfl rfl sz84 rfl rfl rfl rfl ?_)
  intro w7 S7; clear S6
  refine wl_end rfl ?_
  refine nm_sub [(0, _), (4, _), (6, _)] ⟨rfl, rfl, rfl, trivial⟩ ?_
  refine nm_thn ?_
  refine ws_seqN Left_n7 Left_n8 rfl rfl rfl ?_
  refine ws_draw rfl (by kernel_rfl) S7 17 rfl ?_
  clear S7
  refine wa_takeP (i := 0) (d := 18) 16 rfl (by kernel_rfl) (by kernel_rfl) (by kernel_rfl) rfl rfl rfl (fun w8 => run_move rfl rfl) ?_
  refine wa_take (i := 1) (d := 19) 15 rfl (by kernel_rfl) (by kernel_rfl) (by kernel_rfl) rfl rfl rfl (fun M2 N2 w9 hle2 S9 => .inl (run_loadN (us := [_, _]) rfl rfl Try.underlying84 rfl sz84 (S9.suf.boxcs (i := 0) rfl ⟨rfl, rfl, trivial⟩))) ?_
  refine wa_take (i := 2) (d := 20) 14 rfl (by kernel_rfl) (by kernel_rfl) (by kernel_rfl) rfl rfl rfl (fun M3 N3 w10 hle3 S10 => yield_cq rfl rfl rfl rfl rfl cf96 S10 (At_q d ((endOf d x.a x.b).1) (((endOf d x.a x.b).2 + 3) % 4) ((hsb.mono (Hp.un_mono hle3 S10.mx)).mono S10.un_XH) ((hsc.mono (Hp.un_mono hle3 S10.mx)).mono S10.un_XH) ((hsi.mono (Hp.un_mono hle3 S10.mx)).mono S10.un_XH) ((hso.mono (Hp.un_mono hle3 S10.mx)).mono S10.un_XH) (by omega) (by omega) S10.lend)) ?_
  refine wa_takeP (i := 3) (d := 21) 13 rfl (by kernel_rfl) (by kernel_rfl) (by kernel_rfl) rfl rfl rfl (fun w11 => run_move rfl rfl) ?_
  refine wa_takeP (i := 4) (d := 22) 12 rfl (by kernel_rfl) (by kernel_rfl) (by kernel_rfl) rfl rfl rfl (fun w12 => run_nilCheck rfl rfl) ?_
  refine wa_takeP (i := 5) (d := 23) 11 rfl (by kernel_rfl) (by kernel_rfl) (by kernel_rfl) rfl rfl rfl (fun w13 => run_fieldAddr rfl rfl Try.underlying81 rfl (ce27) (nf27)) ?_
  refine wa_takeP (i := 6) (d := 24) 10 rfl (by kernel_rfl) (by kernel_rfl) (by kernel_rfl) rfl rfl rfl (fun w14 => run_fieldAddr rfl rfl Try.underlying27 rfl (ce25) (nf25)) ?_
  refine wa_take (i := 7) (d := 25) 9 rfl (by kernel_rfl) (by kernel_rfl) (by kernel_rfl) rfl rfl rfl (fun M8 N8 w15 hle8 S15 => .inl (run_load1 rfl rfl Try.underlying25 rfl ((hsb.mono (Hp.un_mono hle8 S15.mx)).cell S15.um rfl))) ?_
  refine wa_takeP (i := 8) (d := 26) 8 rfl (by kernel_rfl) (by kernel_rfl) (by kernel_rfl) rfl rfl rfl (fun w16 => run_fieldAddr rfl rfl Try.underlying84 rfl (ce3) (nf3)) ?_
  refine wa_take (i := 9) (d := 27) 7 rfl (by kernel_rfl) (by kernel_rfl) (by kernel_rfl) rfl rfl rfl (fun M10 N10 w17 hle10 S17 => .inl (run_load1 rfl rfl Try.underlying3 rfl (S17.suf.boxc (i := 0) rfl rfl))) ?_
  refine wa_take (i := 10) (d := 28) 6 rfl (by kernel_rfl) (by kernel_rfl) (by kernel_rfl) rfl rfl rfl (fun M11 N11 w18 hle11 S18 => .inl (run_indexM (C := cdCr) ((endOf d x.a x.b).1) rfl rfl rfl sl25 (by first | rfl | omega) (hsc.mono (Hp.un_mono hle11 S18.mx)) (by first | omega | (simp only [List.length_set, List.length_append, List.length_replicate, List.length_singleton, List.length_cons, List.length_nil]; omega)))) ?_
  refine wa_take (i := 11) (d := 29) 5 rfl (by kernel_rfl) (by kernel_rfl) (by kernel_rfl) rfl rfl rfl (fun M12 N12 w19 hle12 S19 => .inl (run_loadN (us := [_, _, _, _, _]) rfl rfl Try.underlying73 rfl sz73 ((hsc.mono (Hp.un_mono hle12 S19.mx)).cellsAt S19.um (e := (endOf d x.a x.b).1) (by first | omega | (simp only [List.length_set, List.length_append, List.length_replicate, List.length_singleton, List.length_cons, List.length_nil]; omega)) (j := 0) ⟨rfl, rfl, rfl, rfl, rfl, trivial⟩))) ?_
  refine wa_takeP (i := 12) (d := 30) 4 rfl (by kernel_rfl) (by kernel_rfl) (by kernel_rfl) rfl rfl rfl (fun w20 => run_fieldAddr rfl rfl Try.underlying84 rfl (ce3) (nf3)) ?_
  refine wa_take (i := 13) (d := 31) 3 rfl (by kernel_rfl) (by kernel_rfl) (by kernel_rfl) rfl rfl rfl (fun M14 N14 w21 hle14 S21 => .inl (run_load1 rfl rfl Try.underlying3 rfl (S21.suf.boxc (i := 0) rfl rfl))) ?_
  refine wa_take (i := 14) (d := 32) 2 rfl (by kernel_rfl) (by kernel_rfl) (by kernel_rfl) rfl rfl rfl (fun M15 N15 w22 hle15 S22 => yield_cq rfl rfl rfl rfl rfl cf95 S22 (Comes_q (ga d.crs ((endOf d x.a x.b).1)) (((endOf d x.a x.b).2 + 3) % 4) (by omega) S22.lend)) ?_
  refine wa_take (i := 15) (d := 33) 1 rfl (by kernel_rfl) (by kernel_rfl) (by kernel_rfl) rfl rfl rfl (fun M16 N16 w23 hle16 S23 => .inl (run_build (l := [_, _]) rfl rfl st102 rfl rfl)) ?_
  refine wa_only (i := 16) 0 rfl (by kernel_rfl) rfl rfl (fun w25 S25 => ?_)
  refine (wo_storeB (i := 2) (us := [_, _]) (l' := [_, _]) (H' := [_, _, _, _]) rfl rfl S25 rfl rfl rfl rfl sz102 rfl rfl rfl rfl ?_)
  intro w26 S26; clear S25
  refine LeftW.turn (by kernel_rfl) S26 ?_; clear S26
  change WA _ _ _ _ _ _ _ _ _ _ _ _ [_, _, _, _]
  refine wa_end (by kernel_rfl) (fun w27 S27 => ?_)
  refine nm_sub [(4, _)] ⟨rfl, trivial⟩ ?_
  refine nm_thn ?_
  refine ws_ret hC [_] rfl rfl ⟨⟨_, rfl, loadVarN (us := [_, _]) Try.underlying102 rfl sz102 (S27.boxcs (i := 2) rfl ⟨rfl, rfl, trivial⟩)⟩, trivial⟩ ?_
  exact ⟨_, rfl, (S27.pick [] [] (by decide) trivial), rfl⟩

noncomputable def Other_n0 : Code := Try.f89.body.getD .skip
noncomputable def Other_n1 : Code := cL Other_n0
noncomputable def Other_n2 : Code := cR Other_n0
noncomputable def Other_n3 : Code := cL Other_n2
noncomputable def Other_n4 : Code := cR Other_n2
noncomputable def Other_n5 : Code := cL Other_n4
noncomputable def Other_n6 : Code := cR Other_n4
noncomputable def Other_n7 : Code := cL Other_n5
noncomputable def Other_n8 : Code := cR Other_n5
noncomputable def Other_n9 : Code := cL Other_n8
noncomputable def Other_n10 : Code := cR Other_n8
noncomputable def Other_n11 : Code := cL Other_n9
noncomputable def Other_n12 : Code := cR Other_n9
noncomputable def Other_n13 : Code := cL Other_n6
noncomputable def Other_n14 : Code := cR Other_n6
set_option maxRecDepth 10000 in
theorem Other_q {w : World} {M : Hp} {X : Fr} (d : Dg) {gsh : Nat} {cA iA oA : Option Addr} {cc ic oc : Nat} (c k : Nat) (hsb : BxM (M.un X.h) gsh 81 [.slice cA d.crs.length cc, .int .i64 d.loops, .slice iA (tabL d false (4 * d.crs.length)).length ic, .slice oA (tabL d true (4 * d.crs.length)).length oc]) (hsc : RdA cdCr (M.un X.h) cA cc d.crs) (hsi : RdA cdPl (M.un X.h) iA ic (tabL d false (4 * d.crs.length))) (hso : RdA cdPl (M.un X.h) oA oc (tabL d true (4 * d.crs.length))) (hn : d.crs.length ≤ 16) (hab : arcsB d = true) (hc : c < d.crs.length) (hk : k < 4) (S : SH w M X []) : Cq Try.prog 89 [.pointer (some ⟨gsh, 0, none⟩), .agg [.int .i64 (c : Int), .int .i64 (k : Int)].toArray] w M X (fun u => u = .agg (plF (endOf d (arcAt d c k) (entryB d c k))).toArray) := by
  unfold Cq
  have hx := arcAt_bd hab hc hk
  have hx1 := hx.1
  have hx2 := hx.2
  obtain ⟨hE1, hE2, hE3, hE4, hE5⟩ := endD hab hx (entryB d c k)
  have htl : ∀ b, (tabL d b (4 * d.crs.length)).length = 2 * d.crs.length + 1 := fun b => tabL_len d b _
  have htf := htl false
  have htt := htl true
  refine calls_in (b := Other_n0) Try.func89 rfl Try.ntmps89 rfl (fun C hC => ?_)
  refine ws_sub [(0, _), (1, _)] ⟨rfl, rfl, trivial⟩ ?_
  refine ws_seqN Other_n1 Other_n2 rfl rfl rfl ?_
  refine ws_region rfl ?_
  refine wl_op (k := 0) (k' := 1) rfl rfl rfl (wo_box (l := [_, _]) rfl rfl rfl rfl rfl S ?_)
  intro gb1 w1 S1; clear S
  refine wl_op (k := 1) (k' := 2) rfl rfl rfl (wo_alloc (l := [_, _]) rfl rfl rfl zr84 rfl S1 ?_)
  intro gb2 w2 S2; clear S1
  refine wl_end rfl ?_
  refine nm_sub [(0, _), (3, _), (4, _)] ⟨rfl, rfl, rfl, trivial⟩ ?_
  refine nm_thn ?_
  refine ws_seqN Other_n3 Other_n4 rfl rfl rfl ?_
  refine ws_region rfl ?_
  refine wl_op (k := 0) (k' := 1) rfl rfl rfl (wo_run rfl rfl (run_move rfl rfl) ?_)
  refine wl_op (k := 1) (k' := 2) rfl rfl rfl (wo_run rfl rfl (run_loadN (us := [_, _]) rfl rfl Try.underlying84 rfl sz84 (S2.boxcs (i := 1) rfl ⟨rfl, rfl, trivial⟩)) ?_)
  refine wl_op (k := 2) (k' := 3) rfl rfl rfl (wo_cq rfl rfl rfl rfl rfl rfl rfl cf96 S2 (At_q d c k (hsb.mono S2.un_XH) (hsc.mono S2.un_XH) (hsi.mono S2.un_XH) (hso.mono S2.un_XH) (by omega) (by omega) S2.lend) ?_)
  rintro _ w3 S3 rfl; clear S2
  refine wl_op (k := 3) (k' := 4) rfl rfl rfl (wo_run rfl rfl (run_assign rfl rfl) ?_)
  refine wl_end rfl ?_
  refine nm_sub [(0, _), (3, _), (4, _), (5, _)] ⟨rfl, rfl, rfl, rfl, trivial⟩ ?_
  refine nm_thn ?_
  refine ws_seqN Other_n5 Other_n6 rfl rfl rfl ?_
  refine ws_seqN Other_n7 Other_n8 rfl rfl rfl ?_
  refine ws_draw rfl (by kernel_rfl) S3 12 rfl ?_
  clear S3
  refine wa_takeP (i := 0) (d := 9) 11 rfl (by kernel_rfl) (by kernel_rfl) (by kernel_rfl) rfl rfl rfl (fun w4 => run_move rfl rfl) ?_
  refine wa_takeP (i := 1) (d := 10) 10 rfl (by kernel_rfl) (by kernel_rfl) (by kernel_rfl) rfl rfl rfl (fun w5 => run_nilCheck rfl rfl) ?_
  refine wa_takeP (i := 2) (d := 11) 9 rfl (by kernel_rfl) (by kernel_rfl) (by kernel_rfl) rfl rfl rfl (fun w6 => run_fieldAddr rfl rfl Try.underlying81 rfl (ce27) (nf27)) ?_
  refine wa_takeP (i := 3) (d := 12) 8 rfl (by kernel_rfl) (by kernel_rfl) (by kernel_rfl) rfl rfl rfl (fun w7 => run_fieldAddr rfl rfl Try.underlying27 rfl (ce25) (nf25)) ?_
  refine wa_take (i := 4) (d := 13) 7 rfl (by kernel_rfl) (by kernel_rfl) (by kernel_rfl) rfl rfl rfl (fun M5 N5 w8 hle5 S8 => .inl (run_load1 rfl rfl Try.underlying25 rfl ((hsb.mono (Hp.un_mono hle5 S8.mx)).cell S8.um rfl))) ?_
  refine wa_takeP (i := 5) (d := 14) 6 rfl (by kernel_rfl) (by kernel_rfl) (by kernel_rfl) rfl rfl rfl (fun w9 => run_fieldAddr rfl rfl Try.underlying84 rfl (ce3) (nf3)) ?_
  refine wa_take (i := 6) (d := 15) 5 rfl (by kernel_rfl) (by kernel_rfl) (by kernel_rfl) rfl rfl rfl (fun M7 N7 w10 hle7 S10 => .inl (run_load1 rfl rfl Try.underlying3 rfl (S10.suf.boxc (i := 1) rfl rfl))) ?_
  refine wa_take (i := 7) (d := 16) 4 rfl (by kernel_rfl) (by kernel_rfl) (by kernel_rfl) rfl rfl rfl (fun M8 N8 w11 hle8 S11 => .inl (run_indexM (C := cdCr) c rfl rfl rfl sl25 (by first | rfl | omega) (hsc.mono (Hp.un_mono hle8 S11.mx)) (by first | omega | (simp only [List.length_set, List.length_append, List.length_replicate, List.length_singleton, List.length_cons, List.length_nil]; omega)))) ?_
  refine wa_take (i := 8) (d := 17) 3 rfl (by kernel_rfl) (by kernel_rfl) (by kernel_rfl) rfl rfl rfl (fun M9 N9 w12 hle9 S12 => .inl (run_loadN (us := [_, _, _, _, _]) rfl rfl Try.underlying73 rfl sz73 ((hsc.mono (Hp.un_mono hle9 S12.mx)).cellsAt S12.um (e := c) (by first | omega | (simp only [List.length_set, List.length_append, List.length_replicate, List.length_singleton, List.length_cons, List.length_nil]; omega)) (j := 0) ⟨rfl, rfl, rfl, rfl, rfl, trivial⟩))) ?_
  refine wa_takeP (i := 9) (d := 18) 2 rfl (by kernel_rfl) (by kernel_rfl) (by kernel_rfl) rfl rfl rfl (fun w13 => run_fieldAddr rfl rfl Try.underlying84 rfl (ce3) (nf3)) ?_
  refine wa_take (i := 10) (d := 19) 1 rfl (by kernel_rfl) (by kernel_rfl) (by kernel_rfl) rfl rfl rfl (fun M11 N11 w14 hle11 S14 => .inl (run_load1 rfl rfl Try.underlying3 rfl (S14.suf.boxc (i := 1) rfl rfl))) ?_
  refine wa_take (i := 11) (d := 20) 0 rfl (by kernel_rfl) (by kernel_rfl) (by kernel_rfl) rfl rfl rfl (fun M12 N12 w15 hle12 S15 => yield_cq rfl rfl rfl rfl rfl cf95 S15 (Comes_q (ga d.crs c) k (by omega) S15.lend)) ?_
  refine wa_end (by kernel_rfl) (fun w16 S16 => ?_)
  refine nm_sub [(0, _), (4, _), (5, _), (20, _)] ⟨rfl, rfl, rfl, rfl, trivial⟩ ?_
  refine nm_thn ?_
  refine ws_condN Other_n9 Other_n10 rfl rfl rfl rfl (fun hb20 => ?_) (fun hb20 => ?_)
  · refine ws_seqN Other_n11 Other_n12 rfl rfl rfl ?_
    refine ws_region rfl ?_
    refine wl_op (k := 0) (k' := 1) rfl rfl rfl (wo_run rfl rfl (run_move rfl rfl) ?_)
    refine wl_op (k := 1) (k' := 2) rfl rfl rfl (wo_run rfl rfl (run_nilCheck rfl rfl) ?_)
    refine wl_op (k := 2) (k' := 3) rfl rfl rfl (wo_run rfl rfl (run_fieldAddr rfl rfl Try.underlying81 rfl (ce79) (nf79)) ?_)
    refine wl_op (k := 3) (k' := 4) rfl rfl rfl (wo_run rfl rfl (run_load1 rfl rfl Try.underlying79 rfl (hsb.cell S16.um rfl)) ?_)
    refine wl_op (k := 4) (k' := 5) rfl rfl rfl (wo_run rfl rfl (run_move rfl rfl) ?_)
    refine wl_op (k := 5) (k' := 6) rfl rfl rfl (wo_run rfl rfl (run_indexM (C := cdPl) ((arcAt d c k).toNat) rfl rfl rfl sl79 (by first | rfl | omega) hso (by first | omega | (simp only [List.length_set, List.length_append, List.length_replicate, List.length_singleton, List.length_cons, List.length_nil]; omega))) ?_)
    refine wl_op (k := 6) (k' := 7) rfl rfl rfl (wo_run rfl rfl (run_loadN (us := [_, _]) rfl rfl Try.underlying84 rfl sz84 (hso.cellsAt S16.um (e := (arcAt d c k).toNat) (by first | omega | (simp only [List.length_set, List.length_append, List.length_replicate, List.length_singleton, List.length_cons, List.length_nil]; omega)) (j := 0) ⟨rfl, rfl, trivial⟩)) ?_)
    refine wl_op (k := 7) (k' := 8) rfl rfl rfl (wo_storeB (i := 0) (us := [_, _]) (l' := [_, _]) (H' := [_, _]) rfl rfl S16 rfl rfl rfl rfl sz84 rfl rfl rfl rfl ?_)
    intro w17 S17; clear S16
    refine wl_end rfl ?_
    refine nm_sub [(4, _)] ⟨rfl, trivial⟩ ?_
    refine nm_thn ?_
    refine ws_ret hC [_] rfl rfl ⟨⟨_, rfl, loadVarN (us := [_, _]) Try.underlying84 rfl sz84 (S17.boxcs (i := 0) rfl ⟨rfl, rfl, trivial⟩)⟩, trivial⟩ ?_
    exact ⟨_, rfl, (S17.pick [] [] (by decide) trivial), (by have hb9 : entryB d c k = _ := hb20; rw [hb9] at hE3 ⊢; show Value.agg (plF (ga (tabL d _ (4 * d.crs.length)) (arcAt d c k).toNat)).toArray = _; rw [hE3])⟩
  · refine ws_skip rfl ?_
    refine nm_sub [(0, _), (4, _), (5, _)] ⟨rfl, rfl, rfl, trivial⟩ ?_
    refine nm_thn ?_
    refine ws_seqN Other_n13 Other_n14 rfl rfl rfl ?_
    refine ws_region rfl ?_
    refine wl_op (k := 0) (k' := 1) rfl rfl rfl (wo_run rfl rfl (run_move rfl rfl) ?_)
    refine wl_op (k := 1) (k' := 2) rfl rfl rfl (wo_run rfl rfl (run_nilCheck rfl rfl) ?_)
    refine wl_op (k := 2) (k' := 3) rfl rfl rfl (wo_run rfl rfl (run_fieldAddr rfl rfl Try.underlying81 rfl (ce79) (nf79)) ?_)
    refine wl_op (k := 3) (k' := 4) rfl rfl rfl (wo_run rfl rfl (run_load1 rfl rfl Try.underlying79 rfl (hsb.cell S16.um rfl)) ?_)
    refine wl_op (k := 4) (k' := 5) rfl rfl rfl (wo_run rfl rfl (run_move rfl rfl) ?_)
    refine wl_op (k := 5) (k' := 6) rfl rfl rfl (wo_run rfl rfl (run_indexM (C := cdPl) ((arcAt d c k).toNat) rfl rfl rfl sl79 (by first | rfl | omega) hsi (by first | omega | (simp only [List.length_set, List.length_append, List.length_replicate, List.length_singleton, List.length_cons, List.length_nil]; omega))) ?_)
    refine wl_op (k := 6) (k' := 7) rfl rfl rfl (wo_run rfl rfl (run_loadN (us := [_, _]) rfl rfl Try.underlying84 rfl sz84 (hsi.cellsAt S16.um (e := (arcAt d c k).toNat) (by first | omega | (simp only [List.length_set, List.length_append, List.length_replicate, List.length_singleton, List.length_cons, List.length_nil]; omega)) (j := 0) ⟨rfl, rfl, trivial⟩)) ?_)
    refine wl_op (k := 7) (k' := 8) rfl rfl rfl (wo_storeB (i := 0) (us := [_, _]) (l' := [_, _]) (H' := [_, _]) rfl rfl S16 rfl rfl rfl rfl sz84 rfl rfl rfl rfl ?_)
    intro w18 S18; clear S16
    refine wl_end rfl ?_
    refine nm_sub [(4, _)] ⟨rfl, trivial⟩ ?_
    refine nm_thn ?_
    refine ws_ret hC [_] rfl rfl ⟨⟨_, rfl, loadVarN (us := [_, _]) Try.underlying84 rfl sz84 (S18.boxcs (i := 0) rfl ⟨rfl, rfl, trivial⟩)⟩, trivial⟩ ?_
    exact ⟨_, rfl, (S18.pick [] [] (by decide) trivial), (by have hb9 : entryB d c k = _ := hb20; rw [hb9] at hE3 ⊢; show Value.agg (plF (ga (tabL d _ (4 * d.crs.length)) (arcAt d c k).toNat)).toArray = _; rw [hE3])⟩

end Go.Proofs.Ytlbpgnimpcflaaa
