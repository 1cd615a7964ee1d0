/- Walks printed by eng.py. -/
import Derived.Test.YtlbpgnimpcflaaaT3
import Derived.Test.YtlbpgnimpcflaaaEb
namespace Go.Proofs.Ytlbpgnimpcflaaa
set_option linter.unusedSimpArgs false
set_option linter.unusedVariables false
open Go.ChangeShapes Go.WideShapes Go.ChangeAt Go.RowKit
noncomputable def CanonSums_n0 : Code := Try.f4.body.getD .skip
noncomputable def CanonSums_n1 : Code := cL CanonSums_n0
noncomputable def CanonSums_n2 : Code := cR CanonSums_n0
noncomputable def CanonSums_n3 : Code := cL CanonSums_n2
noncomputable def CanonSums_n4 : Code := cR CanonSums_n2
noncomputable def CanonSums_n5 : Code := cL CanonSums_n4
noncomputable def CanonSums_n6 : Code := cR CanonSums_n4
noncomputable def CanonSums_n7 : Code := cL CanonSums_n5
noncomputable def CanonSums_n8 : Code := cR CanonSums_n5
noncomputable def CanonSums_n9 : Code := cL CanonSums_n8
noncomputable def CanonSums_n10 : Code := cR CanonSums_n8
noncomputable def CanonSums_n11 : Code := cL CanonSums_n9
noncomputable def CanonSums_n12 : Code := cR CanonSums_n9
noncomputable def CanonSums_n13 : Code := cL CanonSums_n6
noncomputable def CanonSums_n14 : Code := cR CanonSums_n6
noncomputable def CanonSums_n15 : Code := cL CanonSums_n14
noncomputable def CanonSums_n16 : Code := cR CanonSums_n14
set_option maxRecDepth 10000 in
theorem CanonSums_t {w : World} {M : Hp} {X : Fr} (a : Dg) {acrsA : Option Addr} {acrsc : Nat} (x : Int) (b : Dg) {bcrsA : Option Addr} {bcrsc : Nat} (y : Int) (hacrs : RdA cdCr M acrsA acrsc a.crs) (hbcrs : RdA cdCr M bcrsA bcrsc b.crs) (hx : -9223372036854775808 ≤ x ∧ x ≤ 9223372036854775807) (hy : -9223372036854775808 ≤ y ∧ y ≤ 9223372036854775807) (S : SH w M X []) : Ct Try.prog 4 [.agg [.slice acrsA a.crs.length acrsc, .int .i64 a.loops].toArray, .int .i64 x, .agg [.slice bcrsA b.crs.length bcrsc, .int .i64 b.loops].toArray, .int .i64 y] w M X (fun u _ => u = .bool true) := by
  unfold Ct
  refine calls_in (b := CanonSums_n0) Try.func4 rfl Try.ntmps4 rfl (fun C hC => ?_)
  refine ws_sub [(0, _), (1, _), (2, _), (3, _)] ⟨rfl, rfl, rfl, rfl, trivial⟩ ?_
  refine ws_seqN CanonSums_n1 CanonSums_n2 rfl rfl rfl ?_
  refine ws_region rfl ?_
  refine wl_op (k := 0) (k' := 1) rfl rfl rfl (wo_box (l := [_, _]) rfl rfl rfl rfl rfl S ?_)
  intro gb1 w1 S1; clear S
  refine wl_op (k := 1) (k' := 2) rfl rfl rfl (wo_box (l := [_, _]) rfl rfl rfl rfl rfl S1 ?_)
  intro gb2 w2 S2; clear S1
  refine wl_op (k := 2) (k' := 3) rfl rfl rfl (wo_run rfl rfl (run_assign rfl rfl) ?_)
  refine wl_end rfl ?_
  refine nm_sub [(1, _), (3, _), (4, _), (6, _)] ⟨rfl, rfl, rfl, rfl, trivial⟩ ?_
  refine nm_thn ?_
  refine ws_seqN CanonSums_n3 CanonSums_n4 rfl rfl rfl ?_
  refine ws_cut (fun ax_ wx_ => ∃ (As : Option Addr) (cs : Nat) (gbs : Nat) (M1 : Hp), M.le M1 ∧ Env 60 [(1, .int .i64 x), (3, .int .i64 y), (4, .pointer (some ⟨gb1, 0, none⟩)), (6, .pointer (some ⟨gb2, 0, none⟩)), (9, .pointer (some ⟨gbs, 0, none⟩)), (10, .int .i64 ((sumP a b x y).2))] ax_ ∧ SH wx_ M1 X [Rs.box gbs 27 [.slice As ((sumP a b x y).1.crs).length cs, .int .i64 ((sumP a b x y).1.loops)], Rs.box gb2 27 [.slice bcrsA b.crs.length bcrsc, .int .i64 b.loops], Rs.box gb1 27 [.slice acrsA a.crs.length acrsc, .int .i64 a.loops]] ∧ RdA cdCr M1 As cs (sumP a b x y).1.crs) ?_ ?_
  · refine ws_draw rfl (by kernel_rfl) S2 13 rfl ?_
    clear S2
    refine wa_take (i := 0) (d := 14) 12 rfl (by kernel_rfl) (by kernel_rfl) (by kernel_rfl) rfl rfl rfl (fun M2 N1 w4 hle2 S4 => .inl (run_loadN (us := [_, _]) rfl rfl Try.underlying27 rfl sz27 (S4.suf.boxcs (i := 1) rfl ⟨rfl, rfl, trivial⟩))) ?_
    refine wa_takeP (i := 2) (d := 16) 11 rfl (by kernel_rfl) (by kernel_rfl) (by kernel_rfl) rfl rfl rfl (fun w6 => run_move rfl rfl) ?_
    refine wa_take (i := 3) (d := 17) 10 rfl (by kernel_rfl) (by kernel_rfl) (by kernel_rfl) rfl rfl rfl (fun M6 N5 w8 hle6 S8 => .inl (run_loadN (us := [_, _]) rfl rfl Try.underlying27 rfl sz27 (S8.suf.boxcs (i := 0) rfl ⟨rfl, rfl, trivial⟩))) ?_
    refine wa_takeP (i := 5) (d := 19) 9 rfl (by kernel_rfl) (by kernel_rfl) (by kernel_rfl) rfl rfl rfl (fun w10 => run_move rfl rfl) ?_
    refine wa_two (i := 1) (j := 10) 8 rfl rfl (by kernel_rfl) rfl rfl rfl rfl (fun w13 S13 => ?_) (fun w13 S13 => ?_)
    · refine (wo_ct rfl rfl rfl rfl rfl rfl rfl cf16 S13 (DiagramOf_t a (hacrs.mono (Hp.le_un _ _)) S13.lend) ?_)
      intro vw14 w14 M11 hle11 S14 hRw14; clear S13
      replace hacrs := hacrs.mono hle11
      replace hbcrs := hbcrs.mono hle11
      obtain ⟨A1, c1, rfl, hr1⟩ := hRw14
      refine LeftW.grow [] (hle11) S14 ?_; clear S14
      change WA _ _ _ _ _ _ _ _ _ _ _ _ [_, _]
      refine wa_base ?_
      refine wa_two (i := 4) (j := 10) 7 rfl rfl (by kernel_rfl) rfl rfl rfl rfl (fun w17 S17 => ?_) (fun w17 S17 => ?_)
      · refine (wo_ct rfl rfl rfl rfl rfl rfl rfl cf16 S17 (DiagramOf_t b (hbcrs.mono (Hp.le_un _ _)) S17.lend) ?_)
        intro vw18 w18 M14 hle14 S18 hRw18; clear S17
        replace hacrs := hacrs.mono hle14
        replace hbcrs := hbcrs.mono hle14
        replace hr1 := hr1.mono hle14
        obtain ⟨A2, c2, rfl, hr2⟩ := hRw18
        refine LeftW.grow [] (hle14) S18 ?_; clear S18
        change WA _ _ _ _ _ _ _ _ _ _ _ _ [_, _]
        refine wa_base ?_
        refine wa_two (i := 6) (j := 10) 6 rfl rfl (by kernel_rfl) rfl rfl rfl rfl (fun w21 S21 => ?_) (fun w21 S21 => ?_)
        · refine (wo_ct rfl rfl rfl rfl rfl rfl rfl cf15 S21 (Sum_t a x b y (hr1.mono (Hp.le_un _ _)) (hr2.mono (Hp.le_un _ _)) (hx) (hy) S21.lend) ?_)
          intro vw22 w22 M17 hle17 S22 hRw22; clear S21
          replace hacrs := hacrs.mono hle17
          replace hbcrs := hbcrs.mono hle17
          replace hr1 := hr1.mono hle17
          replace hr2 := hr2.mono hle17
          obtain ⟨A3, c3, rfl, hr3⟩ := hRw22
          refine LeftW.grow [] (hle17) S22 ?_; clear S22
          change WA _ _ _ _ _ _ _ _ _ _ _ _ [_, _]
          refine wa_base ?_
          refine wa_takeP (i := 7) (d := 13) 5 rfl (by kernel_rfl) (by kernel_rfl) (by kernel_rfl) rfl rfl rfl (fun w23 => run_move rfl rfl) ?_
          refine wa_takeP (i := 8) (d := 21) 4 rfl (by kernel_rfl) (by kernel_rfl) (by kernel_rfl) rfl rfl rfl (fun w24 => run_extract rfl rfl rfl) ?_
          refine wa_takeP (i := 9) (d := 22) 3 rfl (by kernel_rfl) (by kernel_rfl) (by kernel_rfl) rfl rfl rfl (fun w25 => run_extract rfl rfl rfl) ?_
          refine wa_only (i := 10) 2 rfl (by kernel_rfl) rfl rfl (fun w27 S27 => ?_)
          refine (wo_alloc (l := [_, _]) rfl rfl rfl zr27 rfl S27 ?_)
          intro gb3 w28 S28; clear S27
          refine LeftW.grow [_] (Hp.le_refl _) S28 ?_; clear S28
          change WA _ _ _ _ _ _ _ _ _ _ _ _ [_, _, _]
          refine wa_only (i := 11) 1 rfl (by kernel_rfl) rfl rfl (fun w30 S30 => ?_)
          refine (wo_storeB (i := 0) (us := [_, _]) (l' := [_, _]) (H' := [_, _, _]) rfl rfl S30 rfl rfl rfl rfl sz27 rfl rfl rfl rfl ?_)
          intro w31 S31; clear S30
          refine LeftW.grow [_] (Hp.le_refl _) S31 ?_; clear S31
          change WA _ _ _ _ _ _ _ _ _ _ _ _ [_, _, _]
          refine wa_takeP (i := 12) (d := 10) 0 rfl (by kernel_rfl) (by kernel_rfl) (by kernel_rfl) rfl rfl rfl (fun w32 => run_assign rfl rfl) ?_
          refine wa_end (by kernel_rfl) (fun w33 S33 => ?_)
          refine nm_lp ?_
          intro ax_ hax_
          refine ⟨_, _, _, _, ((hle11.trans hle14).trans hle17), hax_.sub ⟨rfl, rfl, rfl, rfl, rfl, rfl, trivial⟩, S33.pick [0, 1, 2] [_, _, _] (by decide) ⟨rfl, rfl, rfl, trivial⟩, ?hq1f0⟩
          case hq1f0 => exact hr3
        · refine (wo_alloc (l := [_, _]) rfl rfl rfl zr27 rfl S21 ?_)
          intro gb4 w34 S34; clear S21
          refine LeftW.grow [_] (Hp.le_refl _) S34 ?_; clear S34
          change WA _ _ _ _ _ _ _ _ _ _ _ _ [_, _, _]
          refine wa_only (i := 6) 5 rfl (by kernel_rfl) rfl rfl (fun w36 S36 => ?_)
          refine (wo_ct rfl rfl rfl rfl rfl rfl rfl cf15 S36 (Sum_t a x b y (hr1.mono (Hp.le_un _ _)) (hr2.mono (Hp.le_un _ _)) (hx) (hy) S36.lend) ?_)
          intro vw37 w37 M25 hle25 S37 hRw37; clear S36
          replace hacrs := hacrs.mono hle25
          replace hbcrs := hbcrs.mono hle25
          replace hr1 := hr1.mono hle25
          replace hr2 := hr2.mono hle25
          obtain ⟨A4, c4, rfl, hr4⟩ := hRw37
          refine LeftW.grow [_] (hle25) S37 ?_; clear S37
          change WA _ _ _ _ _ _ _ _ _ _ _ _ [_, _, _]
          refine wa_base ?_
          refine wa_takeP (i := 7) (d := 13) 4 rfl (by kernel_rfl) (by kernel_rfl) (by kernel_rfl) rfl rfl rfl (fun w38 => run_move rfl rfl) ?_
          refine wa_takeP (i := 8) (d := 21) 3 rfl (by kernel_rfl) (by kernel_rfl) (by kernel_rfl) rfl rfl rfl (fun w39 => run_extract rfl rfl rfl) ?_
          refine wa_takeP (i := 9) (d := 22) 2 rfl (by kernel_rfl) (by kernel_rfl) (by kernel_rfl) rfl rfl rfl (fun w40 => run_extract rfl rfl rfl) ?_
          refine wa_only (i := 11) 1 rfl (by kernel_rfl) rfl rfl (fun w42 S42 => ?_)
          refine (wo_storeB (i := 0) (us := [_, _]) (l' := [_, _]) (H' := [_, _, _]) rfl rfl S42 rfl rfl rfl rfl sz27 rfl rfl rfl rfl ?_)
          intro w43 S43; clear S42
          refine LeftW.turn (by kernel_rfl) S43 ?_; clear S43
          change WA _ _ _ _ _ _ _ _ _ _ _ _ [_, _, _]
          refine wa_takeP (i := 12) (d := 10) 0 rfl (by kernel_rfl) (by kernel_rfl) (by kernel_rfl) rfl rfl rfl (fun w44 => run_assign rfl rfl) ?_
          refine wa_end (by kernel_rfl) (fun w45 S45 => ?_)
          refine nm_lp ?_
          intro ax_ hax_
          refine ⟨_, _, _, _, ((hle11.trans hle14).trans hle25), hax_.sub ⟨rfl, rfl, rfl, rfl, rfl, rfl, trivial⟩, S45.pick [0, 1, 2] [_, _, _] (by decide) ⟨rfl, rfl, rfl, trivial⟩, ?hq2f0⟩
          case hq2f0 => exact hr4
      · refine (wo_alloc (l := [_, _]) rfl rfl rfl zr27 rfl S17 ?_)
        intro gb5 w46 S46; clear S17
        refine LeftW.grow [_] (Hp.le_refl _) S46 ?_; clear S46
        change WA _ _ _ _ _ _ _ _ _ _ _ _ [_, _, _]
        refine wa_only (i := 4) 6 rfl (by kernel_rfl) rfl rfl (fun w48 S48 => ?_)
        refine (wo_ct rfl rfl rfl rfl rfl rfl rfl cf16 S48 (DiagramOf_t b (hbcrs.mono (Hp.le_un _ _)) S48.lend) ?_)
        intro vw49 w49 M32 hle32 S49 hRw49; clear S48
        replace hacrs := hacrs.mono hle32
        replace hbcrs := hbcrs.mono hle32
        replace hr1 := hr1.mono hle32
        obtain ⟨A5, c5, rfl, hr5⟩ := hRw49
        refine LeftW.grow [_] (hle32) S49 ?_; clear S49
        change WA _ _ _ _ _ _ _ _ _ _ _ _ [_, _, _]
        refine wa_base ?_
        refine wa_only (i := 6) 5 rfl (by kernel_rfl) rfl rfl (fun w51 S51 => ?_)
        refine (wo_ct rfl rfl rfl rfl rfl rfl rfl cf15 S51 (Sum_t a x b y (hr1.mono (Hp.le_un _ _)) (hr5.mono (Hp.le_un _ _)) (hx) (hy) S51.lend) ?_)
        intro vw52 w52 M34 hle34 S52 hRw52; clear S51
        replace hacrs := hacrs.mono hle34
        replace hbcrs := hbcrs.mono hle34
        replace hr1 := hr1.mono hle34
        replace hr5 := hr5.mono hle34
        obtain ⟨A6, c6, rfl, hr6⟩ := hRw52
        refine LeftW.grow [] (hle34) S52 ?_; clear S52
        change WA _ _ _ _ _ _ _ _ _ _ _ _ [_, _, _]
        refine wa_base ?_
        refine wa_takeP (i := 7) (d := 13) 4 rfl (by kernel_rfl) (by kernel_rfl) (by kernel_rfl) rfl rfl rfl (fun w53 => run_move rfl rfl) ?_
        refine wa_takeP (i := 8) (d := 21) 3 rfl (by kernel_rfl) (by kernel_rfl) (by kernel_rfl) rfl rfl rfl (fun w54 => run_extract rfl rfl rfl) ?_
        refine wa_takeP (i := 9) (d := 22) 2 rfl (by kernel_rfl) (by kernel_rfl) (by kernel_rfl) rfl rfl rfl (fun w55 => run_extract rfl rfl rfl) ?_
        refine wa_only (i := 11) 1 rfl (by kernel_rfl) rfl rfl (fun w57 S57 => ?_)
        refine (wo_storeB (i := 0) (us := [_, _]) (l' := [_, _]) (H' := [_, _, _]) rfl rfl S57 rfl rfl rfl rfl sz27 rfl rfl rfl rfl ?_)
        intro w58 S58; clear S57
        refine LeftW.turn (by kernel_rfl) S58 ?_; clear S58
        change WA _ _ _ _ _ _ _ _ _ _ _ _ [_, _, _]
        refine wa_takeP (i := 12) (d := 10) 0 rfl (by kernel_rfl) (by kernel_rfl) (by kernel_rfl) rfl rfl rfl (fun w59 => run_assign rfl rfl) ?_
        refine wa_end (by kernel_rfl) (fun w60 S60 => ?_)
        refine nm_lp ?_
        intro ax_ hax_
        refine ⟨_, _, _, _, ((hle11.trans hle32).trans hle34), hax_.sub ⟨rfl, rfl, rfl, rfl, rfl, rfl, trivial⟩, S60.pick [0, 1, 2] [_, _, _] (by decide) ⟨rfl, rfl, rfl, trivial⟩, ?hq3f0⟩
        case hq3f0 => exact hr6
    · refine (wo_alloc (l := [_, _]) rfl rfl rfl zr27 rfl S13 ?_)
      intro gb6 w61 S61; clear S13
      refine LeftW.grow [_] (Hp.le_refl _) S61 ?_; clear S61
      change WA _ _ _ _ _ _ _ _ _ _ _ _ [_, _, _]
      refine wa_only (i := 1) 7 rfl (by kernel_rfl) rfl rfl (fun w63 S63 => ?_)
      refine (wo_ct rfl rfl rfl rfl rfl rfl rfl cf16 S63 (DiagramOf_t a (hacrs.mono (Hp.le_un _ _)) S63.lend) ?_)
      intro vw64 w64 M41 hle41 S64 hRw64; clear S63
      replace hacrs := hacrs.mono hle41
      replace hbcrs := hbcrs.mono hle41
      obtain ⟨A7, c7, rfl, hr7⟩ := hRw64
      refine LeftW.grow [_] (hle41) S64 ?_; clear S64
      change WA _ _ _ _ _ _ _ _ _ _ _ _ [_, _, _]
      refine wa_base ?_
      refine wa_only (i := 4) 6 rfl (by kernel_rfl) rfl rfl (fun w66 S66 => ?_)
      refine (wo_ct rfl rfl rfl rfl rfl rfl rfl cf16 S66 (DiagramOf_t b (hbcrs.mono (Hp.le_un _ _)) S66.lend) ?_)
      intro vw67 w67 M43 hle43 S67 hRw67; clear S66
      replace hacrs := hacrs.mono hle43
      replace hbcrs := hbcrs.mono hle43
      replace hr7 := hr7.mono hle43
      obtain ⟨A8, c8, rfl, hr8⟩ := hRw67
      refine LeftW.grow [] (hle43) S67 ?_; clear S67
      change WA _ _ _ _ _ _ _ _ _ _ _ _ [_, _, _]
      refine wa_base ?_
      refine wa_only (i := 6) 5 rfl (by kernel_rfl) rfl rfl (fun w69 S69 => ?_)
      refine (wo_ct rfl rfl rfl rfl rfl rfl rfl cf15 S69 (Sum_t a x b y (hr7.mono (Hp.le_un _ _)) (hr8.mono (Hp.le_un _ _)) (hx) (hy) S69.lend) ?_)
      intro vw70 w70 M45 hle45 S70 hRw70; clear S69
      replace hacrs := hacrs.mono hle45
      replace hbcrs := hbcrs.mono hle45
      replace hr7 := hr7.mono hle45
      replace hr8 := hr8.mono hle45
      obtain ⟨A9, c9, rfl, hr9⟩ := hRw70
      refine LeftW.grow [] (hle45) S70 ?_; clear S70
      change WA _ _ _ _ _ _ _ _ _ _ _ _ [_, _, _]
      refine wa_base ?_
      refine wa_takeP (i := 7) (d := 13) 4 rfl (by kernel_rfl) (by kernel_rfl) (by kernel_rfl) rfl rfl rfl (fun w71 => run_move rfl rfl) ?_
      refine wa_takeP (i := 8) (d := 21) 3 rfl (by kernel_rfl) (by kernel_rfl) (by kernel_rfl) rfl rfl rfl (fun w72 => run_extract rfl rfl rfl) ?_
      refine wa_takeP (i := 9) (d := 22) 2 rfl (by kernel_rfl) (by kernel_rfl) (by kernel_rfl) rfl rfl rfl (fun w73 => run_extract rfl rfl rfl) ?_
      refine wa_only (i := 11) 1 rfl (by kernel_rfl) rfl rfl (fun w75 S75 => ?_)
      refine (wo_storeB (i := 0) (us := [_, _]) (l' := [_, _]) (H' := [_, _, _]) rfl rfl S75 rfl rfl rfl rfl sz27 rfl rfl rfl rfl ?_)
      intro w76 S76; clear S75
      refine LeftW.turn (by kernel_rfl) S76 ?_; clear S76
      change WA _ _ _ _ _ _ _ _ _ _ _ _ [_, _, _]
      refine wa_takeP (i := 12) (d := 10) 0 rfl (by kernel_rfl) (by kernel_rfl) (by kernel_rfl) rfl rfl rfl (fun w77 => run_assign rfl rfl) ?_
      refine wa_end (by kernel_rfl) (fun w78 S78 => ?_)
      refine nm_lp ?_
      intro ax_ hax_
      refine ⟨_, _, _, _, ((hle41.trans hle43).trans hle45), hax_.sub ⟨rfl, rfl, rfl, rfl, rfl, rfl, trivial⟩, S78.pick [0, 1, 2] [_, _, _] (by decide) ⟨rfl, rfl, rfl, trivial⟩, ?hq4f0⟩
      case hq4f0 => exact hr9
  · rintro a1 w3 ⟨As, cs, gbs, M1, hle1, he1, S3, hrs⟩
    clear S2
    refine nm_in he1 ?_
    clear he1 a1
    replace hacrs := hacrs.mono hle1
    replace hbcrs := hbcrs.mono hle1
    refine nm_thn ?_
    refine ws_seqN CanonSums_n5 CanonSums_n6 rfl rfl rfl ?_
    refine ws_seqN CanonSums_n7 CanonSums_n8 rfl rfl rfl ?_
    refine ws_region rfl ?_
    refine wl_op (k := 0) (k' := 1) rfl rfl rfl (wo_run rfl rfl (run_loadN (us := [_, _]) rfl rfl Try.underlying27 rfl sz27 (S3.boxcs (i := 2) rfl ⟨rfl, rfl, trivial⟩)) ?_)
    refine wl_op (k := 1) (k' := 2) rfl rfl rfl (wo_cq rfl rfl rfl rfl rfl rfl rfl cf17 S3 (DiagramMay_q a (hacrs.mono (Hp.le_un _ _)) S3.lend) ?_)
    rintro _ w79 S79 rfl; clear S3
    refine wl_op (k := 2) (k' := 3) rfl rfl rfl (wo_run rfl rfl (run_not rfl rfl) ?_)
    refine wl_op (k := 3) (k' := 4) rfl rfl rfl (wo_run rfl rfl (run_move rfl rfl) ?_)
    refine wl_split (t := 26) rfl (fun hg26 => ?_) (fun hg26 => ?_)
    · simp only [Bool.and_eq_true, Bool.or_eq_true, Bool.and_eq_false_iff, Bool.or_eq_false_iff, decide_eq_true_eq, decide_eq_false_iff_not, Bool.not_eq_true', Bool.not_eq_false'] at hg26
      refine wl_no (k := 4) (k' := 5) (d := 27) rfl rfl ⟨_, _, _, rfl, rfl, rfl, rfl⟩ rfl rfl ?_
      refine wl_no (k := 5) (k' := 6) (d := 28) rfl rfl ⟨_, _, _, rfl, rfl, rfl, rfl⟩ rfl rfl ?_
      refine wl_no (k := 6) (k' := 7) (d := 29) rfl rfl ⟨_, _, _, rfl, rfl, rfl, rfl⟩ rfl rfl ?_
      refine wl_op (k := 7) (k' := 8) rfl rfl rfl (wo_run rfl rfl (run_pickT rfl rfl rfl) ?_)
      refine wl_end rfl ?_
      refine nm_sub [(1, _), (3, _), (4, _), (6, _), (9, _), (10, _), (30, _)] ⟨rfl, rfl, rfl, rfl, rfl, rfl, rfl, trivial⟩ ?_
      refine nm_thn ?_
      refine ws_condTN CanonSums_n9 rfl rfl rfl ?_
      refine ws_seqN CanonSums_n11 CanonSums_n12 rfl rfl rfl ?_
      have e0 : sumP a b x y = (⟨[], 0⟩, 7) := by simp [sumP, *]
      refine ws_region rfl ?_
      refine wl_op (k := 0) (k' := 1) rfl rfl rfl (wo_run rfl rfl (run_move rfl rfl) ?_)
      refine wl_op (k := 1) (k' := 2) rfl rfl rfl (wo_run rfl rfl (run_eql rfl rfl rfl) ?_)
      refine wl_op (k := 2) (k' := 3) rfl rfl rfl (wo_run rfl rfl (run_move rfl rfl) ?_)
      refine wl_split (t := 33) rfl (fun hg33 => ?_) (fun hg33 => ?_)
      · have hg33 := of_decide_eq_true hg33
        refine wl_opG (k := 3) (k' := 4) rfl rfl ⟨_, _, _, rfl, rfl, rfl, rfl⟩ rfl (wo_run rfl rfl (run_fieldAddr rfl rfl Try.underlying27 rfl (ce25) (nf25)) ?_)
        refine wl_opG (k := 4) (k' := 5) rfl rfl ⟨_, _, _, rfl, rfl, rfl, rfl⟩ rfl (wo_run rfl rfl (run_load1 rfl rfl Try.underlying25 rfl (S79.boxc (i := 0) rfl rfl)) ?_)
        refine wl_opG (k := 5) (k' := 6) rfl rfl ⟨_, _, _, rfl, rfl, rfl, rfl⟩ rfl (wo_run rfl rfl (run_len rfl rfl rfl rfl rfl rfl Try.underlying25) ?_)
        refine wl_opG (k := 6) (k' := 7) rfl rfl ⟨_, _, _, rfl, rfl, rfl, rfl⟩ rfl (wo_run rfl rfl (run_eql rfl rfl rfl) ?_)
        refine wl_op (k := 7) (k' := 8) rfl rfl rfl (wo_run rfl rfl (run_pickT rfl rfl rfl) ?_)
        refine wl_op (k := 8) (k' := 9) rfl rfl rfl (wo_run rfl rfl (run_move rfl rfl) ?_)
        refine wl_split (t := 39) rfl (fun hg39 => ?_) (fun hg39 => ?_)
        · have hg39 := of_decide_eq_true hg39
          refine wl_opG (k := 9) (k' := 10) rfl rfl ⟨_, _, _, rfl, rfl, rfl, rfl⟩ rfl (wo_run rfl rfl (run_fieldAddr rfl rfl Try.underlying27 rfl (ce3) (nf3)) ?_)
          refine wl_opG (k := 10) (k' := 11) rfl rfl ⟨_, _, _, rfl, rfl, rfl, rfl⟩ rfl (wo_run rfl rfl (run_load1 rfl rfl Try.underlying3 rfl (S79.boxc (i := 0) rfl rfl)) ?_)
          refine wl_opG (k := 11) (k' := 12) rfl rfl ⟨_, _, _, rfl, rfl, rfl, rfl⟩ rfl (wo_run rfl rfl (run_eql rfl rfl rfl) ?_)
          refine wl_op (k := 12) (k' := 13) rfl rfl rfl (wo_run rfl rfl (run_pickT rfl rfl rfl) ?_)
          refine wl_op (k := 13) (k' := 14) rfl rfl rfl (wo_run rfl rfl (run_assign rfl rfl) ?_)
          refine wl_end rfl ?_
          refine nm_sub [(8, _)] ⟨rfl, trivial⟩ ?_
          refine nm_thn ?_
          refine ws_ret hC [_] rfl rfl ⟨rfl, trivial⟩ ?_
          refine ⟨_, rfl, _, hle1, (S79.pick [] [] (by decide) trivial), ?_⟩
          show Value.bool _ = _
          first | rfl | simp [e0]
        · have hg39 := of_decide_eq_false hg39
          exfalso; simp [e0] at hg39
      · have hg33 := of_decide_eq_false hg33
        exfalso; simp [e0] at hg33
    · simp only [Bool.and_eq_true, Bool.or_eq_true, Bool.and_eq_false_iff, Bool.or_eq_false_iff, decide_eq_true_eq, decide_eq_false_iff_not, Bool.not_eq_true', Bool.not_eq_false'] at hg26
      refine wl_opG (k := 4) (k' := 5) rfl rfl ⟨_, _, _, rfl, rfl, rfl, rfl⟩ rfl (wo_run rfl rfl (run_loadN (us := [_, _]) rfl rfl Try.underlying27 rfl sz27 (S79.boxcs (i := 1) rfl ⟨rfl, rfl, trivial⟩)) ?_)
      refine wl_opG (k := 5) (k' := 6) rfl rfl ⟨_, _, _, rfl, rfl, rfl, rfl⟩ rfl (wo_cq rfl rfl rfl rfl rfl rfl rfl cf17 S79 (DiagramMay_q b (hbcrs.mono (Hp.le_un _ _)) S79.lend) ?_)
      rintro _ w80 S80 rfl; clear S79
      refine wl_opG (k := 6) (k' := 7) rfl rfl ⟨_, _, _, rfl, rfl, rfl, rfl⟩ rfl (wo_run rfl rfl (run_not rfl rfl) ?_)
      refine wl_op (k := 7) (k' := 8) rfl rfl rfl (wo_run rfl rfl (run_pickF rfl rfl rfl) ?_)
      refine wl_end rfl ?_
      refine nm_sub [(1, _), (3, _), (4, _), (6, _), (9, _), (10, _), (30, _)] ⟨rfl, rfl, rfl, rfl, rfl, rfl, rfl, trivial⟩ ?_
      refine nm_thn ?_
      refine ws_condN CanonSums_n9 CanonSums_n10 rfl rfl rfl rfl (fun hb30 => ?_) (fun hb30 => ?_)
      · simp only [Bool.and_eq_true, Bool.or_eq_true, Bool.and_eq_false_iff, Bool.or_eq_false_iff, decide_eq_true_eq, decide_eq_false_iff_not, Bool.not_eq_true', Bool.not_eq_false'] at hb30
        refine ws_seqN CanonSums_n11 CanonSums_n12 rfl rfl rfl ?_
        have e0 : sumP a b x y = (⟨[], 0⟩, 7) := by simp [sumP, *]
        refine ws_region rfl ?_
        refine wl_op (k := 0) (k' := 1) rfl rfl rfl (wo_run rfl rfl (run_move rfl rfl) ?_)
        refine wl_op (k := 1) (k' := 2) rfl rfl rfl (wo_run rfl rfl (run_eql rfl rfl rfl) ?_)
        refine wl_op (k := 2) (k' := 3) rfl rfl rfl (wo_run rfl rfl (run_move rfl rfl) ?_)
        refine wl_split (t := 33) rfl (fun hg33 => ?_) (fun hg33 => ?_)
        · have hg33 := of_decide_eq_true hg33
          refine wl_opG (k := 3) (k' := 4) rfl rfl ⟨_, _, _, rfl, rfl, rfl, rfl⟩ rfl (wo_run rfl rfl (run_fieldAddr rfl rfl Try.underlying27 rfl (ce25) (nf25)) ?_)
          refine wl_opG (k := 4) (k' := 5) rfl rfl ⟨_, _, _, rfl, rfl, rfl, rfl⟩ rfl (wo_run rfl rfl (run_load1 rfl rfl Try.underlying25 rfl (S80.boxc (i := 0) rfl rfl)) ?_)
          refine wl_opG (k := 5) (k' := 6) rfl rfl ⟨_, _, _, rfl, rfl, rfl, rfl⟩ rfl (wo_run rfl rfl (run_len rfl rfl rfl rfl rfl rfl Try.underlying25) ?_)
          refine wl_opG (k := 6) (k' := 7) rfl rfl ⟨_, _, _, rfl, rfl, rfl, rfl⟩ rfl (wo_run rfl rfl (run_eql rfl rfl rfl) ?_)
          refine wl_op (k := 7) (k' := 8) rfl rfl rfl (wo_run rfl rfl (run_pickT rfl rfl rfl) ?_)
          refine wl_op (k := 8) (k' := 9) rfl rfl rfl (wo_run rfl rfl (run_move rfl rfl) ?_)
          refine wl_split (t := 39) rfl (fun hg39 => ?_) (fun hg39 => ?_)
          · have hg39 := of_decide_eq_true hg39
            refine wl_opG (k := 9) (k' := 10) rfl rfl ⟨_, _, _, rfl, rfl, rfl, rfl⟩ rfl (wo_run rfl rfl (run_fieldAddr rfl rfl Try.underlying27 rfl (ce3) (nf3)) ?_)
            refine wl_opG (k := 10) (k' := 11) rfl rfl ⟨_, _, _, rfl, rfl, rfl, rfl⟩ rfl (wo_run rfl rfl (run_load1 rfl rfl Try.underlying3 rfl (S80.boxc (i := 0) rfl rfl)) ?_)
            refine wl_opG (k := 11) (k' := 12) rfl rfl ⟨_, _, _, rfl, rfl, rfl, rfl⟩ rfl (wo_run rfl rfl (run_eql rfl rfl rfl) ?_)
            refine wl_op (k := 12) (k' := 13) rfl rfl rfl (wo_run rfl rfl (run_pickT rfl rfl rfl) ?_)
            refine wl_op (k := 13) (k' := 14) rfl rfl rfl (wo_run rfl rfl (run_assign rfl rfl) ?_)
            refine wl_end rfl ?_
            refine nm_sub [(8, _)] ⟨rfl, trivial⟩ ?_
            refine nm_thn ?_
            refine ws_ret hC [_] rfl rfl ⟨rfl, trivial⟩ ?_
            refine ⟨_, rfl, _, hle1, (S80.pick [] [] (by decide) trivial), ?_⟩
            show Value.bool _ = _
            first | rfl | simp [e0]
          · have hg39 := of_decide_eq_false hg39
            exfalso; simp [e0] at hg39
        · have hg33 := of_decide_eq_false hg33
          exfalso; simp [e0] at hg33
      · simp only [Bool.and_eq_true, Bool.or_eq_true, Bool.and_eq_false_iff, Bool.or_eq_false_iff, decide_eq_true_eq, decide_eq_false_iff_not, Bool.not_eq_true', Bool.not_eq_false'] at hb30
        refine ws_skip rfl ?_
        refine nm_sub [(1, _), (3, _), (4, _), (6, _), (9, _), (10, _)] ⟨rfl, rfl, rfl, rfl, rfl, rfl, trivial⟩ ?_
        refine nm_thn ?_
        refine ws_seqN CanonSums_n13 CanonSums_n14 rfl rfl rfl ?_
        have e0 : sumP a b x y = sumR a b x y := by simp only [sumP, hg26, hb30, Bool.and_self, if_true]
        obtain ⟨h2, h0⟩ := may_arcs hg26
        obtain ⟨h3, h1⟩ := may_arcs hb30
        have h4 := may_loops hg26
        have h5 := may_loops hb30
        have h6 := hx
        rw [e0] at S80 hrs ⊢
        refine ws_region rfl ?_
        refine wl_op (k := 0) (k' := 1) rfl rfl rfl (wo_run rfl rfl (run_loadN (us := [_, _]) rfl rfl Try.underlying27 rfl sz27 (S80.boxcs (i := 2) rfl ⟨rfl, rfl, trivial⟩)) ?_)
        refine wl_op (k := 1) (k' := 2) rfl rfl rfl (wo_run rfl rfl (run_move rfl rfl) ?_)
        refine wl_op (k := 2) (k' := 3) rfl rfl rfl (wo_run rfl rfl (run_loadN (us := [_, _]) rfl rfl Try.underlying27 rfl sz27 (S80.boxcs (i := 1) rfl ⟨rfl, rfl, trivial⟩)) ?_)
        refine wl_op (k := 3) (k' := 4) rfl rfl rfl (wo_run rfl rfl (run_move rfl rfl) ?_)
        refine wl_op (k := 4) (k' := 5) rfl rfl rfl (wo_ct rfl rfl rfl rfl rfl rfl rfl cf18 S80 (SumOf_t a x b y (hacrs.mono (Hp.le_un _ _)) (hbcrs.mono (Hp.le_un _ _)) (h0) (h1) (h2) (h3) (h4) (h5) (h6) S80.lend) ?_)
        intro vw81 w81 M51 hle51 S81 hRw81; clear S80
        replace hacrs := hacrs.mono hle51
        replace hbcrs := hbcrs.mono hle51
        replace hrs := hrs.mono hle51
        obtain ⟨A10, c10, rfl, hr10⟩ := hRw81
        refine wl_op (k := 5) (k' := 6) rfl rfl rfl (wo_run rfl rfl (run_move rfl rfl) ?_)
        refine wl_op (k := 6) (k' := 7) rfl rfl rfl (wo_run rfl rfl (run_extract rfl rfl rfl) ?_)
        refine wl_op (k := 7) (k' := 8) rfl rfl rfl (wo_run rfl rfl (run_extract rfl rfl rfl) ?_)
        refine wl_op (k := 8) (k' := 9) rfl rfl rfl (wo_alloc (l := [_, _]) rfl rfl rfl zr27 rfl S81 ?_)
        intro gb7 w82 S82; clear S81
        refine wl_op (k := 9) (k' := 10) rfl rfl rfl (wo_storeB (i := 0) (us := [_, _]) (l' := [_, _]) (H' := [_, _, _, _]) rfl rfl S82 rfl rfl rfl rfl sz27 rfl rfl rfl rfl ?_)
        intro w83 S83; clear S82
        refine wl_op (k := 10) (k' := 11) rfl rfl rfl (wo_run rfl rfl (run_assign rfl rfl) ?_)
        refine wl_end rfl ?_
        refine nm_sub [(9, _), (10, _), (11, _), (12, _)] ⟨rfl, rfl, rfl, rfl, trivial⟩ ?_
        refine nm_thn ?_
        refine ws_seqN CanonSums_n15 CanonSums_n16 rfl rfl rfl ?_
        refine ws_region rfl ?_
        refine wl_op (k := 0) (k' := 1) rfl rfl rfl (wo_run rfl rfl (run_move rfl rfl) ?_)
        refine wl_op (k := 1) (k' := 2) rfl rfl rfl (wo_run rfl rfl (run_move rfl rfl) ?_)
        refine wl_op (k := 2) (k' := 3) rfl rfl rfl (wo_run rfl rfl (run_eql rfl rfl rfl) ?_)
        refine wl_op (k := 3) (k' := 4) rfl rfl rfl (wo_run rfl rfl (run_move rfl rfl) ?_)
        refine wl_split (t := 55) rfl (fun hg55 => ?_) (fun hg55 => ?_)
        · have hg55 := of_decide_eq_true hg55
          refine wl_opG (k := 4) (k' := 5) rfl rfl ⟨_, _, _, rfl, rfl, rfl, rfl⟩ rfl (wo_run rfl rfl (run_loadN (us := [_, _]) rfl rfl Try.underlying27 rfl sz27 (S83.boxcs (i := 1) rfl ⟨rfl, rfl, trivial⟩)) ?_)
          refine wl_opG (k := 5) (k' := 6) rfl rfl ⟨_, _, _, rfl, rfl, rfl, rfl⟩ rfl (wo_run rfl rfl (run_loadN (us := [_, _]) rfl rfl Try.underlying27 rfl sz27 (S83.boxcs (i := 0) rfl ⟨rfl, rfl, trivial⟩)) ?_)
          refine wl_opG (k := 6) (k' := 7) rfl rfl ⟨_, _, _, rfl, rfl, rfl, rfl⟩ rfl (wo_cq rfl rfl rfl rfl rfl rfl rfl cf14 S83 (SameDiagram_q _ (hrs.mono (Hp.le_un _ _)) (hr10.mono (Hp.le_un _ _)) S83.lend) ?_)
          rintro _ w84 S84 rfl; clear S83
          refine wl_op (k := 7) (k' := 8) rfl rfl rfl (wo_run rfl rfl (run_pickT rfl rfl rfl) ?_)
          refine wl_op (k := 8) (k' := 9) rfl rfl rfl (wo_run rfl rfl (run_assign rfl rfl) ?_)
          refine wl_end rfl ?_
          refine nm_sub [(8, _)] ⟨rfl, trivial⟩ ?_
          refine nm_thn ?_
          refine ws_ret hC [_] rfl rfl ⟨rfl, trivial⟩ ?_
          refine ⟨_, rfl, _, hle1.trans hle51, (S84.pick [] [] (by decide) trivial), ?_⟩
          show Value.bool _ = _
          first | rfl | simp [e0]
        · have hg55 := of_decide_eq_false hg55
          exfalso; exact hg55 rfl

end Go.Proofs.Ytlbpgnimpcflaaa
