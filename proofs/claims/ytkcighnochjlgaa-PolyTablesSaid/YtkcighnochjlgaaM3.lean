/- Walks printed by eng.py. -/
import Derived.Test.YtkcighnochjlgaaM2
import Derived.Test.YtkcighnochjlgaaE18
set_option linter.unusedSimpArgs false
set_option linter.unusedVariables false
namespace Go.Proofs.Ytkcighnochjlgaa
open Go.ChangeShapes Go.WideShapes Go.ChangeAt Go.RowKit
def KeysR (g : Nat) (u : Value) (M : Hp) : Prop := ∃ b, u = .func (.func 144) #[] [.pointer (some ⟨b, 0, none⟩)].toArray ∧ BxM M b 87 [.map (some g)]
theorem SH.pubB2 {w : World} {M : Hp} {X : Fr} {H H' : List Rs} {i g : Nat} {T : TypeId} {l : List Value} (S : SH w M X H) (hi : nth H i = some (Rs.box g T l)) (hH : H.set i Rs.emp = H') : ∃ M', M.le M' ∧ SH w M' X H' ∧ BxM M' g T l := by
  obtain ⟨h1, h2, h3⟩ := S.pub hi hH
  refine ⟨_, h1, h2, ?_⟩
  show (M.put w _) g = _
  rw [h3 g (by simp [Rs.box])]
  exact S.get hi
/-- One key more. -/
def stpK (s : List Int × List Int) (v : Value) (s' : List Int × List Int) : Prop := ∃ dn l1 x l2, s = (dn, l1 ++ x :: l2) ∧ v = .int .i64 x ∧ s' = (dn ++ [x], l1 ++ l2)

noncomputable def Keys_n0 : Code := Try.f106.body.getD .skip
noncomputable def Keys_n1 : Code := cL Keys_n0
noncomputable def Keys_n2 : Code := cR Keys_n0
noncomputable def Keys_n3 : Code := cL Keys_n2
noncomputable def Keys_n4 : Code := cR Keys_n2
set_option maxRecDepth 10000 in
theorem Keys_t {w : World} {M : Hp} {X : Fr} (es : List (Int × Int)) {ges : Nat} (hmes : MpOk (Value.int .i64) (Value.int .i64) ges es M) (S : SH w M X []) : Ct Try.prog 106 [.map (some ges)] w M X (KeysR ges) := by
  unfold Ct
  refine calls_in (b := Keys_n0) Try.func106 rfl Try.ntmps106 rfl (fun C hC => ?_)
  refine ws_sub [(0, _)] ⟨rfl, trivial⟩ ?_
  refine ws_seqN Keys_n1 Keys_n2 rfl rfl rfl ?_
  refine ws_region rfl ?_
  refine wl_op (k := 0) (k' := 1) rfl rfl rfl (wo_box (l := [_]) rfl rfl rfl rfl rfl S ?_)
  intro gb1 w1 S1; clear S
  refine wl_op (k := 1) (k' := 2) rfl rfl rfl (wo_run rfl rfl (run_assign rfl rfl) ?_)
  refine wl_end rfl ?_
  refine nm_sub [(1, _)] ⟨rfl, trivial⟩ ?_
  refine nm_thn ?_
  refine ws_seqN Keys_n3 Keys_n4 rfl rfl rfl ?_
  refine ws_region rfl ?_
  refine wl_op (k := 0) (k' := 1) rfl rfl rfl (wo_run rfl rfl (run_makeFunc (vs := [_]) rfl rfl rfl rfl) ?_)
  refine wl_op (k := 1) (k' := 2) rfl rfl rfl (wo_run rfl rfl (run_assign rfl rfl) ?_)
  refine wl_end rfl ?_
  refine nm_sub [(2, _)] ⟨rfl, trivial⟩ ?_
  refine nm_thn ?_
  obtain ⟨M1, hle1, S2, hbx1⟩ := S1.pubB2 (i := 0) (H' := [_]) rfl rfl
  clear S1
  replace hmes := hmes.mono hle1
  refine ws_ret hC [_] rfl rfl ⟨rfl, trivial⟩ ?_
  refine ⟨_, rfl, _, hle1, (S2.pick [] [] (by decide) trivial), ?_⟩
  exact ⟨_, rfl, hbx1⟩

namespace InF

noncomputable def Keys1_n0 : Code := Try.f144.body.getD .skip
noncomputable def Keys1_n1 : Code := cL Keys1_n0
noncomputable def Keys1_n2 : Code := cR Keys1_n0
noncomputable def Keys1_n3 : Code := cL Keys1_n2
noncomputable def Keys1_n4 : Code := cL Keys1_n3
noncomputable def Keys1_n5 : Code := cL Keys1_n4
noncomputable def Keys1_n6 : Code := cR Keys1_n4
noncomputable def Keys1_n7 : Code := cL Keys1_n6
noncomputable def Keys1_n8 : Code := cR Keys1_n6
noncomputable def Keys1_n9 : Code := cL Keys1_n7
noncomputable def Keys1_n10 : Code := cR Keys1_n7
noncomputable def Keys1_n11 : Code := cL Keys1_n8
noncomputable def Keys1_n12 : Code := cL Keys1_n11
noncomputable def Keys1_n13 : Code := cR Keys1_n11
noncomputable def Keys1_n14 : Code := cL Keys1_n13
noncomputable def Keys1_n15 : Code := cR Keys1_n13
noncomputable def Keys1_n16 : Code := cL Keys1_n15
noncomputable def Keys1_n17 : Code := cR Keys1_n15
set_option maxRecDepth 10000 in
theorem Keys1_iter {M : Hp} {X : Fr} {es : List (Int × Int)} {gm b : Nat} (hm : MpOk (Value.int .i64) (Value.int .i64) gm es M) (hbx : BxM M b 87 [.map (some gm)]) : IterX Try.prog 144 [.pointer (some ⟨b, 0, none⟩)] ([], es.map Prod.fst) stpK (fun s => s.2 = []) M X := by
  intro l J w M1 B hle0 hY S hJ0
  replace hm := hm.mono hle0
  replace hbx := hbx.mono hle0
  refine calls_in (b := Keys1_n0) Try.func144 rfl Try.ntmps144 rfl (fun C hCr hC => ?_)
  have hCF : C.F = Fence.wide := by unfold Ctx.F; rw [hCr]
  refine ws_sub [(0, _), (1, _)] ⟨rfl, rfl, trivial⟩ ?_
  refine ws_seqN Keys1_n1 Keys1_n2 rfl rfl rfl ?_
  refine ws_region rfl ?_
  refine wl_op (k := 0) (k' := 1) rfl rfl rfl (wo_run rfl rfl (run_load1 rfl rfl Try.underlying87 rfl (hbx.cell S.m rfl)) ?_)
  obtain ⟨arr1, clk1, hE1⟩ := hm.ents
  refine wl_op (k := 1) (k' := 2) rfl rfl rfl (wo_range rfl rfl rfl rfl Try.underlying87 S hE1 S.m ?_)
  intro r1 w1 S1; clear S
  refine wl_end rfl ?_
  refine nm_sub [(0, _), (5, _)] ⟨rfl, rfl, trivial⟩ ?_
  refine nm_thn ?_
  refine ws_blockN Keys1_n3 0 rfl rfl rfl ?_
  refine ws_loopE (fun mx_ ax_ wx_ => ∃ (sn : Array Nat) (dn : List (Int × Int)) (lf : List (Int × Int)) (B1 : Rs) (M2 : Hp), M1.le M2 ∧ mx_ = lf.length ∧ Env 14 [(0, .func (.yield l) #[] #[]), (5, .pointer (some ⟨r1, 0, none⟩))] ax_ ∧ SH wx_ M2 X [Rs.itr gm clk1 r1 sn, B1] ∧ Lft (Value.int .i64) (Value.int .i64) arr1 sn lf ∧ (dn ++ lf).Perm es ∧ J (dn.map Prod.fst, lf.map Prod.fst) M2 B1) rfl ?_ ?_
  · intro ax_ hax_
    refine ⟨_, ⟨#[], [], es, _, _, Hp.le_refl _, rfl, hax_.sub ⟨rfl, rfl, trivial⟩, S1.pick [0, 1] [_, _] (by decide) ⟨rfl, rfl, trivial⟩, ?hq1f0, ?hq1f1, ?hq1f2⟩⟩
    case hq1f0 => exact hE1.lft
    case hq1f1 => exact List.Perm.refl _
    case hq1f2 => exact hJ0
  · rintro m1 a1 w2 ⟨sn, dn, lf, B1, M2, hle1, rfl, he1, S2, hlf, hpm, hJa⟩
    clear S1
    refine ws_in he1 (c := Keys1_n4) rfl ?_
    clear he1 a1
    replace hbx := hbx.mono hle1
    replace hm := hm.mono hle1
    replace hE1 := hE1.mono hle1
    refine ws_seqN Keys1_n5 Keys1_n6 rfl rfl rfl ?_
    refine ws_region rfl ?_
    refine wl_op (k := 0) (k' := 1) rfl rfl rfl (wo_next (i := 0) rfl rfl rfl rfl S2 rfl hE1 S2.m hlf (fun hlf1 => ?_) (fun k1 v1 l1_1 l2_1 sn1 w3 hlf1 hlft1 hlst1 S3 => ?_))
    · refine wl_op (k := 1) (k' := 2) rfl rfl rfl (wo_run rfl rfl (run_extract rfl rfl rfl) ?_)
      refine wl_end rfl ?_
      refine nm_sub [(0, _), (5, _), (7, _)] ⟨rfl, rfl, rfl, trivial⟩ ?_
      refine nm_thn ?_
      refine ws_seqN Keys1_n7 Keys1_n8 rfl rfl rfl ?_
      refine ws_condFN Keys1_n10 rfl rfl rfl ?_
      refine ws_exit rfl rfl ?_
      refine nm_end hC [] rfl trivial ?_
      obtain rfl : lf = [] := hlf1
      exact ⟨⟨_, rfl⟩, _, _, _, rfl, hle1, S2.pick [1] [_] (by decide) ⟨rfl, trivial⟩, hJa⟩
    · clear S2
      change SH _ _ _ [Rs.itr gm clk1 r1 sn1, _] at S3
      refine wl_op (k := 1) (k' := 2) rfl rfl rfl (wo_run rfl rfl (run_extract rfl rfl rfl) ?_)
      refine wl_end rfl ?_
      refine nm_sub [(0, _), (5, _), (7, _)] ⟨rfl, rfl, rfl, trivial⟩ ?_
      refine nm_thn ?_
      refine ws_seqN Keys1_n7 Keys1_n8 rfl rfl rfl ?_
      refine ws_condTN Keys1_n9 rfl rfl rfl ?_
      refine ws_skip rfl ?_
      refine nm_sub [(0, _), (5, _)] ⟨rfl, rfl, trivial⟩ ?_
      refine nm_thn ?_
      refine ws_blockN Keys1_n11 1 rfl rfl rfl ?_
      refine ws_seqN Keys1_n12 Keys1_n13 rfl rfl rfl ?_
      refine ws_region rfl ?_
      refine wl_op (k := 0) (k' := 1) rfl rfl rfl (wo_run rfl rfl (run_entry (i := 0) rfl rfl S3 rfl hE1 S3.m hlst1) ?_)
      refine wl_op (k := 1) (k' := 2) rfl rfl rfl (wo_run rfl rfl (run_extract rfl rfl rfl) ?_)
      refine wl_op (k := 2) (k' := 3) rfl rfl rfl (wo_run rfl rfl (run_assign rfl rfl) ?_)
      refine wl_end rfl ?_
      refine nm_sub [(0, _), (5, _), (3, _)] ⟨rfl, rfl, rfl, trivial⟩ ?_
      refine nm_thn ?_
      refine ws_seqN Keys1_n14 Keys1_n15 rfl rfl rfl ?_
      refine ws_region rfl ?_
      refine wl_op (k := 0) (k' := 1) rfl rfl rfl (wo_run rfl rfl (run_move rfl rfl) ?_)
      refine wl_op (k := 1) (k' := 2) rfl rfl rfl (wo_run rfl rfl (run_move rfl rfl) ?_)
      have hst : stpK (dn.map Prod.fst, lf.map Prod.fst) (.int .i64 k1) ((dn ++ [(k1, v1)]).map Prod.fst, (l1_1 ++ l2_1).map Prod.fst) := ⟨dn.map Prod.fst, l1_1.map Prod.fst, k1, l2_1.map Prod.fst, by rw [hlf1]; simp, rfl, by simp⟩
      have S4 := S3.perm (List.Perm.swap _ _ _)
      refine wl_yield (k := 2) (k' := 3) rfl rfl rfl rfl rfl rfl rfl rfl rfl rfl (by rw [hCF]; exact hY _ _ _ _ _ [_] _ hst (hle1) S4 hJa) ?_
      rintro _ w4 ⟨rfl, M3, B6, hle2, S5, hJ1⟩; clear S3
      replace hbx := hbx.mono hle2
      replace hm := hm.mono hle2
      replace hE1 := hE1.mono hle2
      refine wl_op (k := 3) (k' := 4) rfl rfl rfl (wo_run rfl rfl (run_not rfl rfl) ?_)
      refine wl_end rfl ?_
      refine nm_sub [(0, _), (5, _), (13, _)] ⟨rfl, rfl, rfl, trivial⟩ ?_
      refine nm_thn ?_
      refine ws_condFN Keys1_n17 rfl rfl rfl ?_
      refine ws_skip rfl ?_
      refine nm_blk ?_
      refine nm_lp ?_
      intro ax_ hax_
      refine ⟨_, ?hq2m, ⟨sn1, dn ++ [(k1, v1)], l1_1 ++ l2_1, _, _, (hle1.trans hle2), rfl, hax_.sub ⟨rfl, rfl, trivial⟩, S5.pick [1, 0] [_, _] (by decide) ⟨rfl, rfl, trivial⟩, ?hq2f0, ?hq2f1, ?hq2f2⟩⟩
      case hq2f0 => assumption
      case hq2f1 => (refine List.Perm.trans ?_ hpm; simp only [*, List.append_assoc, List.cons_append, List.nil_append]; exact (List.perm_append_left_iff _).2 (List.perm_middle.symm))
      case hq2f2 => assumption
      case hq2m => (simp only [*, List.length_append, List.length_cons]; omega)

end InF
noncomputable def ASeq_rf : Code := cL (cR (cL (cR (Try.f160.body.getD .skip))))
/-- What holds between two rounds. -/
def ASeqI (ks : List Int) (g2 : Nat) (s : List Int × List Int) (M : Hp) (H : List Rs) : Prop := ∃ v, H = [Rs.row cdInt v s.1, Rs.box g2 36 [v]] ∧ (s.1 ++ s.2).Perm ks
def ASeqI1 (ks : List Int) (g2 : Nat) (s : List Int × List Int) (a : Act) (M : Hp) (H : List Rs) : Prop := ∃ v dn x, Env 13 [(2, .pointer (some ⟨g2, 0, none⟩)), (5, .int .i64 x)] a ∧ H = [Rs.row cdInt v dn, Rs.box g2 36 [v]] ∧ s.1 = dn ++ [x] ∧ (s.1 ++ s.2).Perm ks
namespace InF

noncomputable def ASeqA_n0 : Code := Try.f160.body.getD .skip
set_option maxRecDepth 10000 in
theorem ASeq_assign {w : World} {M : Hp} {X : Fr} {ks : List Int} {gq2 : Nat} {C : Ctx} {R0 : Rs} {H : List Rs} {L : List (Nat × Value)} {k k1 : List Int × List Int} {u : Value} (hL : Sub L [(2, .pointer (some ⟨gq2, 0, none⟩)), (7, u)]) (hst : stpK k u k1) (S : SH w M X (R0 :: H)) (hI : ASeqI ks gq2 k M H) :
    WS Try.prog 13 C (rgA ASeq_rf) [.lp (fun a w2 => ∃ M2 H2, M.le M2 ∧ SH w2 M2 X (R0 :: H2) ∧ ASeqI1 ks gq2 k1 a M2 H2)] L w := by
  obtain ⟨dn, l1, x, l2, rfl, rfl, rfl⟩ := hst
  obtain ⟨vro, rfl, hpm⟩ := hI
  change SH w M X [R0, Rs.row cdInt vro dn, _] at S
  refine ws_sub _ hL ?_
  refine ws_region rfl ?_
  refine wl_op (k := 0) (k' := 1) rfl rfl rfl (wo_run rfl rfl (run_assign rfl rfl) ?_)
  refine wl_end rfl ?_
  refine nm_lp ?_
  intro ax_ hax_
  refine ⟨M, _, Hp.le_refl _, S.pick [0, 1, 2] [_, _, _] (by decide) ⟨rfl, rfl, rfl, trivial⟩, vro, dn, x, hax_.sub ⟨rfl, rfl, trivial⟩, rfl, rfl, ?_⟩
  refine List.Perm.trans ?_ hpm
  show ((dn ++ [x]) ++ (l1 ++ l2)).Perm (dn ++ (l1 ++ x :: l2))
  rw [List.append_assoc]
  exact (List.perm_append_left_iff _).2 (show (x :: (l1 ++ l2)).Perm (l1 ++ x :: l2) from List.perm_middle.symm)

noncomputable def ASeqB_n0 : Code := Try.f160.body.getD .skip
noncomputable def ASeqB_n1 : Code := rgB ASeq_rf
noncomputable def ASeqB_n2 : Code := cL ASeqB_n1
set_option maxRecDepth 10000 in
theorem ASeq_body {w : World} {M : Hp} {X : Fr} {ks : List Int} {gq2 : Nat} (hks : ks.length ≤ 2199023255553) {C : Ctx} {R0 : Rs} {H : List Rs} {a : Act} {k : List Int × List Int} (S : SH w M X (R0 :: H)) (hI1 : ASeqI1 ks gq2 k a M H) :
    (rgB ASeq_rf).wpIn C.F 0 Try.prog (post Try.prog C [.lp (fun _ w2 => ∃ M2 H2, M.le M2 ∧ SH w2 M2 X (R0 :: H2) ∧ ASeqI ks gq2 k M2 H2)]) a w := by
  obtain ⟨vro, dn, x, ha, rfl, hd, hpm⟩ := hI1
  obtain ⟨k1, lf⟩ := k
  dsimp only at hd hpm
  subst hd
  have hlen := hpm.length_eq
  simp only [List.length_append, List.length_cons, List.length_nil] at hlen
  change SH w M X [R0, Rs.row cdInt vro dn, _] at S
  refine ws_in ha (c := rgB ASeq_rf) rfl ?_
  refine ws_blockN ASeqB_n2 1 rfl rfl rfl ?_
  refine ws_region rfl ?_
  refine wl_op (k := 0) (k' := 1) rfl rfl rfl (wo_run rfl rfl (run_load1 rfl rfl Try.underlying36 rfl (S.boxc (i := 2) rfl rfl)) ?_)
  refine wl_op (k := 1) (k' := 2) rfl rfl rfl (wo_run rfl rfl (run_move rfl rfl) ?_)
  refine wl_op (k := 2) (k' := 3) rfl rfl rfl (wo_buildSlice1 (C := cdInt) (l := [_]) rfl rfl rfl rfl sl36 rfl rfl rfl rfl S ?_)
  intro gb1 w1 S1; clear S
  refine wl_op (k := 3) (k' := 4) rfl rfl rfl (wo_append1 (C := cdInt) (i := 2) (q := 0) x rfl rfl rfl rfl rfl rfl rfl rfl sl36 S1 rfl rfl rfl (by show (_ + 1) * 8 ≤ _; first | omega | (simp only [List.length_set, List.length_append, List.length_replicate, List.length_singleton, List.length_cons, List.length_nil]; omega)) ?_)
  intro vro1 w2 S2; clear S1
  have S3 := S2.pick [1, 2, 3] [_, _, _] (by decide) ⟨rfl, rfl, rfl, trivial⟩; clear S2
  refine wl_op (k := 4) (k' := 5) rfl rfl rfl (wo_storeB (i := 2) (us := [_]) (l' := [_]) (H' := [_, _, _]) rfl rfl S3 rfl rfl rfl (S3.cells1 (i := 1) rfl) sz36 rfl (ones_cons (S3.one (i := 1) rfl) rfl) rfl rfl ?_)
  intro w3 S4; clear S3
  refine wl_end rfl ?_
  refine nm_blk ?_
  refine nm_lp ?_
  intro ax_ hax_
  exact ⟨_, _, Hp.le_refl _, S4.pick [0, 1, 2] [_, _, _] (by decide) ⟨rfl, rfl, rfl, trivial⟩, _, rfl, hpm⟩

noncomputable def ASeq_n0 : Code := Try.f160.body.getD .skip
noncomputable def ASeq_n1 : Code := cL ASeq_n0
noncomputable def ASeq_n2 : Code := cR ASeq_n0
noncomputable def ASeq_n3 : Code := cL ASeq_n2
noncomputable def ASeq_n4 : Code := cR ASeq_n2
noncomputable def ASeq_n5 : Code := cL ASeq_n3
noncomputable def ASeq_n6 : Code := cR ASeq_n3
noncomputable def ASeq_n7 : Code := cL ASeq_n6
set_option maxRecDepth 10000 in
theorem AppendSeq_o {w : World} {M : Hp} {X : Fr} {es : List (Int × Int)} {gm b : Nat} (hm : MpOk (Value.int .i64) (Value.int .i64) gm es M) (hbx : BxM M b 87 [.map (some gm)]) (hks : (es.map Prod.fst).length ≤ 2199023255553) (S : SH w M X []) : Co Try.prog 160 [.slice none 0 0, .func (.func 144) #[] [.pointer (some ⟨b, 0, none⟩)].toArray] w M X fun u N => ∃ ks, ks.Perm (es.map Prod.fst) ∧ N = [Rs.row cdInt u ks] := by
  unfold Co
  refine calls_marks (b := ASeq_n0) Try.func160 rfl Try.ntmps160 rfl (fun C hCr hC => ?_)
  refine ws_sub [(0, _), (1, _)] ⟨rfl, rfl, trivial⟩ ?_
  refine ws_seqN ASeq_n1 ASeq_n2 rfl rfl rfl ?_
  refine ws_region rfl ?_
  refine wl_op (k := 0) (k' := 1) rfl rfl rfl (wo_box (l := [_]) rfl rfl rfl rfl rfl S ?_)
  intro gb1 w1 S1; clear S
  refine wl_op (k := 1) (k' := 2) rfl rfl rfl (wo_run rfl rfl (run_assign rfl rfl) ?_)
  refine wl_end rfl ?_
  refine nm_sub [(1, _), (2, _)] ⟨rfl, rfl, trivial⟩ ?_
  refine nm_thn ?_
  refine ws_seqN ASeq_n3 ASeq_n4 rfl rfl rfl ?_
  refine ws_seqN ASeq_n5 ASeq_n6 rfl rfl rfl ?_
  refine ws_region rfl ?_
  refine wl_op (k := 0) (k' := 1) rfl rfl rfl (wo_run rfl rfl (run_move rfl rfl) ?_)
  refine wl_end rfl ?_
  refine nm_sub [(2, _), (6, _)] ⟨rfl, rfl, trivial⟩ ?_
  refine nm_thn ?_
  refine ws_blockN ASeq_n7 0 rfl rfl rfl ?_
  have S9 := (S1.nilrow cdInt)
  refine ws_rangeFuncX (p := 7) (f := 144) (lb := [_]) (asg := rgA ASeq_rf) (bd := rgB ASeq_rf) hCr rfl rfl rfl cf144 S9 (ASeqI (es.map Prod.fst) gb1) (ASeqI1 (es.map Prod.fst) gb1) ?_ (Keys1_iter hm hbx) ?_ ?_ ?_
  · exact ⟨.slice none 0 0, rfl, List.Perm.refl _⟩
  · intro k k1 v M' H' w' C' R0 hk hle S' hI
    exact ASeq_assign ⟨rfl, rfl, trivial⟩ hk S' hI
  · intro k M' H' w' C' R0 a hle S' hI1
    exact ASeq_body hks S' hI1
  · intro k a M' H' w' D l rc hfin ha hle S' hI
    obtain ⟨dn, lf⟩ := k
    obtain rfl : lf = [] := hfin
    obtain ⟨vro, rfl, hpm⟩ := hI
    change SH w' M' X [Rs.lr l D rc, Rs.row cdInt vro dn, _] at S'
    refine tail_la (c := ASeq_n4) (i := 4) (d1 := 12) (d2 := 4) (v := vro) hC rfl rfl rfl rfl rfl rfl rfl ha rfl Try.underlying36 rfl rfl rfl rfl S' (S'.boxc (i := 2) rfl rfl) (fun w2 S2 => ?_)
    refine ⟨_, rfl, [Rs.row cdInt vro dn], (S2.down hle).pick [0] [_] (by decide) ⟨rfl, trivial⟩, dn, ?_, rfl⟩
    simpa using hpm

end InF

end Go.Proofs.Ytkcighnochjlgaa
