/- Part 6 of the proof of the law CodeReads: the walks through its functions and the plain laws that they need. -/
import Derived.Test.YtklcecpjgingpaaDoorCdZ5
import Derived.LaidMore
import Derived.LaidHandle
import Derived.Stop.Joined
import Derived.Lay
import Derived.Test.YtklcecpjgingpaaDoorCards
import Derived.Test.YtklcecpjgingpaaDoorTie
import Derived.Stop.LaidErr
import Derived.Shelf.Vars
import Derived.ChangeMaps5
import Derived.Lib.LaidU8
set_option linter.unusedSimpArgs false
set_option linter.unusedVariables false
namespace Go.Proofs.YtklcecpjgingpaaDoor
open Go.ChangeShapes Go.WideShapes Go.ChangeAt Go.RowKit
noncomputable def Read1_n0 : Code := Tryd.f19.body.getD .skip
noncomputable def Read1_n1 : Code := cL Read1_n0
noncomputable def Read1_n2 : Code := cR Read1_n0
noncomputable def Read1_n3 : Code := cL Read1_n2
noncomputable def Read1_n4 : Code := cR Read1_n2
set_option maxRecDepth 10000 in
theorem Read1_q {w : World} {M : Hp} {X : Fr} (r : Int) (S : SH w M X []) : Cq Tryd.prog 19 [.int .i32 r] w M X (fun u => u = .bool (isR r)) := by
 unfold Cq
 refine calls_in (b := Read1_n0) Tryd.func19 rfl Tryd.ntmps19 rfl (fun C hC => ?_)
 refine ws_sub [(0, _)] ⟨rfl, trivial⟩ ?_
 refine ws_seqN Read1_n1 Read1_n2 rfl rfl rfl ?_
 refine ws_region rfl ?_
 refine wl_op (k := 0) (k' := 1) rfl rfl rfl (wo_run rfl rfl (run_assign rfl rfl) ?_)
 refine wl_end rfl ?_
 refine nm_sub [(0, _)] ⟨rfl, trivial⟩ ?_
 refine nm_thn ?_
 refine ws_seqN Read1_n3 Read1_n4 rfl rfl rfl ?_
 refine ws_region rfl ?_
 refine wl_op (k := 0) (k' := 1) rfl rfl rfl (wo_run rfl rfl (run_move rfl rfl) ?_)
 refine wl_op (k := 1) (k' := 2) rfl rfl rfl (wo_run rfl rfl (run_eqlR rfl rfl rfl) ?_)
 refine wl_op (k := 2) (k' := 3) rfl rfl rfl (wo_run rfl rfl (run_move rfl rfl) ?_)
 refine wl_split (t := 5) rfl (fun hg5 => ?_) (fun hg5 => ?_)
 ·replace hg5 := of_decide_eq_true hg5
  refine wl_no (k := 3) (k' := 4) (d := 6) rfl rfl ⟨_, _, _, rfl, rfl, rfl, rfl⟩ rfl rfl ?_
  refine wl_no (k := 4) (k' := 5) (d := 7) rfl rfl ⟨_, _, _, rfl, rfl, rfl, rfl⟩ rfl rfl ?_
  refine wl_op (k := 5) (k' := 6) rfl rfl rfl (wo_run rfl rfl (run_pickT rfl rfl rfl) ?_)
  refine wl_op (k := 6) (k' := 7) rfl rfl rfl (wo_run rfl rfl (run_move rfl rfl) ?_)
  refine wl_no (k := 7) (k' := 8) (d := 10) rfl rfl ⟨_, _, _, rfl, rfl, rfl, rfl⟩ rfl rfl ?_
  refine wl_no (k := 8) (k' := 9) (d := 11) rfl rfl ⟨_, _, _, rfl, rfl, rfl, rfl⟩ rfl rfl ?_
  refine wl_op (k := 9) (k' := 10) rfl rfl rfl (wo_run rfl rfl (run_pickT rfl rfl rfl) ?_)
  refine wl_op (k := 10) (k' := 11) rfl rfl rfl (wo_run rfl rfl (run_move rfl rfl) ?_)
  refine wl_no (k := 11) (k' := 12) (d := 14) rfl rfl ⟨_, _, _, rfl, rfl, rfl, rfl⟩ rfl rfl ?_
  refine wl_no (k := 12) (k' := 13) (d := 15) rfl rfl ⟨_, _, _, rfl, rfl, rfl, rfl⟩ rfl rfl ?_
  refine wl_op (k := 13) (k' := 14) rfl rfl rfl (wo_run rfl rfl (run_pickT rfl rfl rfl) ?_)
  refine wl_op (k := 14) (k' := 15) rfl rfl rfl (wo_run rfl rfl (run_assign rfl rfl) ?_)
  refine wl_end rfl ?_
  refine nm_sub [(2, _)] ⟨rfl, trivial⟩ ?_
  refine nm_thn ?_
  refine ws_ret hC [_] rfl rfl ⟨rfl, trivial⟩ ?_
  exact ⟨_, rfl, (S.pick [] [] (by decide) trivial), (congrArg Value.bool (by unfold isR; first | (rw [decide_eq_true (show r = 9 ∨ r = 10 ∨ r = 13 ∨ r = 32 by omega)]) | (simp_all; done) | (by_cases h9 : r = 32; (simp_all; done); (simp_all; done))))⟩
 ·replace hg5 := of_decide_eq_false hg5
  refine wl_opG (k := 3) (k' := 4) rfl rfl ⟨_, _, _, rfl, rfl, rfl, rfl⟩ rfl (wo_run rfl rfl (run_move rfl rfl) ?_)
  refine wl_opG (k := 4) (k' := 5) rfl rfl ⟨_, _, _, rfl, rfl, rfl, rfl⟩ rfl (wo_run rfl rfl (run_eqlR rfl rfl rfl) ?_)
  refine wl_op (k := 5) (k' := 6) rfl rfl rfl (wo_run rfl rfl (run_pickF rfl rfl rfl) ?_)
  refine wl_op (k := 6) (k' := 7) rfl rfl rfl (wo_run rfl rfl (run_move rfl rfl) ?_)
  refine wl_split (t := 9) rfl (fun hg9 => ?_) (fun hg9 => ?_)
  ·replace hg9 := of_decide_eq_true hg9
   refine wl_no (k := 7) (k' := 8) (d := 10) rfl rfl ⟨_, _, _, rfl, rfl, rfl, rfl⟩ rfl rfl ?_
   refine wl_no (k := 8) (k' := 9) (d := 11) rfl rfl ⟨_, _, _, rfl, rfl, rfl, rfl⟩ rfl rfl ?_
   refine wl_op (k := 9) (k' := 10) rfl rfl rfl (wo_run rfl rfl (run_pickT rfl rfl rfl) ?_)
   refine wl_op (k := 10) (k' := 11) rfl rfl rfl (wo_run rfl rfl (run_move rfl rfl) ?_)
   refine wl_no (k := 11) (k' := 12) (d := 14) rfl rfl ⟨_, _, _, rfl, rfl, rfl, rfl⟩ rfl rfl ?_
   refine wl_no (k := 12) (k' := 13) (d := 15) rfl rfl ⟨_, _, _, rfl, rfl, rfl, rfl⟩ rfl rfl ?_
   refine wl_op (k := 13) (k' := 14) rfl rfl rfl (wo_run rfl rfl (run_pickT rfl rfl rfl) ?_)
   refine wl_op (k := 14) (k' := 15) rfl rfl rfl (wo_run rfl rfl (run_assign rfl rfl) ?_)
   refine wl_end rfl ?_
   refine nm_sub [(2, _)] ⟨rfl, trivial⟩ ?_
   refine nm_thn ?_
   refine ws_ret hC [_] rfl rfl ⟨rfl, trivial⟩ ?_
   exact ⟨_, rfl, (S.pick [] [] (by decide) trivial), (congrArg Value.bool (by unfold isR; first | (rw [decide_eq_true (show r = 9 ∨ r = 10 ∨ r = 13 ∨ r = 32 by omega)]) | (simp_all; done) | (by_cases h9 : r = 32; (simp_all; done); (simp_all; done))))⟩
  ·replace hg9 := of_decide_eq_false hg9
   refine wl_opG (k := 7) (k' := 8) rfl rfl ⟨_, _, _, rfl, rfl, rfl, rfl⟩ rfl (wo_run rfl rfl (run_move rfl rfl) ?_)
   refine wl_opG (k := 8) (k' := 9) rfl rfl ⟨_, _, _, rfl, rfl, rfl, rfl⟩ rfl (wo_run rfl rfl (run_eqlR rfl rfl rfl) ?_)
   refine wl_op (k := 9) (k' := 10) rfl rfl rfl (wo_run rfl rfl (run_pickF rfl rfl rfl) ?_)
   refine wl_op (k := 10) (k' := 11) rfl rfl rfl (wo_run rfl rfl (run_move rfl rfl) ?_)
   refine wl_split (t := 13) rfl (fun hg13 => ?_) (fun hg13 => ?_)
   ·replace hg13 := of_decide_eq_true hg13
    refine wl_no (k := 11) (k' := 12) (d := 14) rfl rfl ⟨_, _, _, rfl, rfl, rfl, rfl⟩ rfl rfl ?_
    refine wl_no (k := 12) (k' := 13) (d := 15) rfl rfl ⟨_, _, _, rfl, rfl, rfl, rfl⟩ rfl rfl ?_
    refine wl_op (k := 13) (k' := 14) rfl rfl rfl (wo_run rfl rfl (run_pickT rfl rfl rfl) ?_)
    refine wl_op (k := 14) (k' := 15) rfl rfl rfl (wo_run rfl rfl (run_assign rfl rfl) ?_)
    refine wl_end rfl ?_
    refine nm_sub [(2, _)] ⟨rfl, trivial⟩ ?_
    refine nm_thn ?_
    refine ws_ret hC [_] rfl rfl ⟨rfl, trivial⟩ ?_
    exact ⟨_, rfl, (S.pick [] [] (by decide) trivial), (congrArg Value.bool (by unfold isR; first | (rw [decide_eq_true (show r = 9 ∨ r = 10 ∨ r = 13 ∨ r = 32 by omega)]) | (simp_all; done) | (by_cases h9 : r = 32; (simp_all; done); (simp_all; done))))⟩
   ·replace hg13 := of_decide_eq_false hg13
    refine wl_opG (k := 11) (k' := 12) rfl rfl ⟨_, _, _, rfl, rfl, rfl, rfl⟩ rfl (wo_run rfl rfl (run_move rfl rfl) ?_)
    refine wl_opG (k := 12) (k' := 13) rfl rfl ⟨_, _, _, rfl, rfl, rfl, rfl⟩ rfl (wo_run rfl rfl (run_eqlR rfl rfl rfl) ?_)
    refine wl_op (k := 13) (k' := 14) rfl rfl rfl (wo_run rfl rfl (run_pickF rfl rfl rfl) ?_)
    refine wl_op (k := 14) (k' := 15) rfl rfl rfl (wo_run rfl rfl (run_assign rfl rfl) ?_)
    refine wl_end rfl ?_
    refine nm_sub [(2, _)] ⟨rfl, trivial⟩ ?_
    refine nm_thn ?_
    refine ws_ret hC [_] rfl rfl ⟨rfl, trivial⟩ ?_
    exact ⟨_, rfl, (S.pick [] [] (by decide) trivial), (congrArg Value.bool (by unfold isR; first | (rw [decide_eq_true (show r = 9 ∨ r = 10 ∨ r = 13 ∨ r = 32 by omega)]) | (simp_all; done) | (by_cases h9 : r = 32; (simp_all; done); (simp_all; done))))⟩
theorem SH.pubB {w : World} {M : Hp} {X : Fr} {H H' : List Rs} {i g : Nat} {T : TypeId} {l : List Value} (S : SH w M X H) (hi : nth H i = some (Rs.box g T l)) (hH : H.set i Rs.emp = H') : ∃ M', M.le M' ∧ SH w M' X H' ∧ BxM M' g T l := by
 obtain ⟨h1, h2, h3⟩ := S.pub hi hH
 refine ⟨_, h1, h2, ?_⟩
 show (M.put w _) g = _
 rw [h3 g (by simp [Rs.box])]
 exact S.get hi
def FldR (s : List UInt8) (u : Value) (N : Hp) : Prop := ∃ b1 b2, u = .func (.func 35) #[] [.pointer (some ⟨b1, 0, none⟩), .pointer (some ⟨b2, 0, none⟩)].toArray ∧ BxM N b1 9 [.string (sB s)] ∧ BxM N b2 44 [.func (.func 19) #[] #[]]
noncomputable def FldSeq_n0 : Code := Tryd.f20.body.getD .skip
noncomputable def FldSeq_n1 : Code := cL FldSeq_n0
noncomputable def FldSeq_n2 : Code := cR FldSeq_n0
noncomputable def FldSeq_n3 : Code := cL FldSeq_n2
noncomputable def FldSeq_n4 : Code := cR FldSeq_n2
set_option maxRecDepth 10000 in
theorem FldSeq_t {w : World} {M : Hp} {X : Fr} (s : List UInt8) (S : SH w M X []) : Ct Tryd.prog 20 [.string (sB s), .func (.func 19) #[] #[]] w M X (FldR s) := by
 unfold Ct
 refine calls_in (b := FldSeq_n0) Tryd.func20 rfl Tryd.ntmps20 rfl (fun C hC => ?_)
 refine ws_sub [(0, _), (1, _)] ⟨rfl, rfl, trivial⟩ ?_
 refine ws_seqN FldSeq_n1 FldSeq_n2 rfl rfl rfl ?_
 refine ws_region rfl ?_
 refine wl_op (k := 0) (k' := 1) rfl rfl rfl (wo_box (l := [_]) rfl rfl rfl rfl rfl S ?_)
 intro gb1 w1 S1; clear S
 refine wl_op (k := 1) (k' := 2) rfl rfl rfl (wo_box (l := [_]) rfl rfl rfl rfl rfl S1 ?_)
 intro gb2 w2 S2; clear S1
 refine wl_op (k := 2) (k' := 3) rfl rfl rfl (wo_run rfl rfl (run_assign rfl rfl) ?_)
 refine wl_end rfl ?_
 refine nm_sub [(2, _), (3, _)] ⟨rfl, rfl, trivial⟩ ?_
 refine nm_thn ?_
 refine ws_seqN FldSeq_n3 FldSeq_n4 rfl rfl rfl ?_
 refine ws_region rfl ?_
 refine wl_op (k := 0) (k' := 1) rfl rfl rfl (wo_run rfl rfl (run_makeFunc (vs := [_, _]) rfl rfl rfl rfl) ?_)
 refine wl_op (k := 1) (k' := 2) rfl rfl rfl (wo_run rfl rfl (run_assign rfl rfl) ?_)
 refine wl_end rfl ?_
 refine nm_sub [(4, _)] ⟨rfl, trivial⟩ ?_
 refine nm_thn ?_
 obtain ⟨M1, hle1, S3, hbx1⟩ := S2.pubB (i := 1) (H' := [_, _]) rfl rfl
 clear S2
 obtain ⟨M2, hle2, S4, hbx2⟩ := S3.pubB (i := 0) (H' := [_, _]) rfl rfl
 clear S3
 replace hbx1 := hbx1.mono hle2
 refine ws_ret hC [_] rfl rfl ⟨rfl, trivial⟩ ?_
 refine ⟨_, rfl, _, hle1.trans hle2, (S4.pick [] [] (by decide) trivial), ?_⟩
 exact ⟨_, _, rfl, hbx1, hbx2⟩
namespace InF
noncomputable def FldSeq1_n0 : Code := Tryd.f35.body.getD .skip
noncomputable def FldSeq1_n1 : Code := cL FldSeq1_n0
noncomputable def FldSeq1_n2 : Code := cR FldSeq1_n0
noncomputable def FldSeq1_n3 : Code := cL FldSeq1_n2
noncomputable def FldSeq1_n4 : Code := cR FldSeq1_n2
noncomputable def FldSeq1_n5 : Code := cL FldSeq1_n3
noncomputable def FldSeq1_n6 : Code := cR FldSeq1_n3
noncomputable def FldSeq1_n7 : Code := cL FldSeq1_n6
noncomputable def FldSeq1_n8 : Code := cL FldSeq1_n7
noncomputable def FldSeq1_n9 : Code := cL FldSeq1_n8
noncomputable def FldSeq1_n10 : Code := cR FldSeq1_n8
noncomputable def FldSeq1_n11 : Code := cL FldSeq1_n9
noncomputable def FldSeq1_n12 : Code := cR FldSeq1_n9
noncomputable def FldSeq1_n13 : Code := cL FldSeq1_n12
noncomputable def FldSeq1_n14 : Code := cR FldSeq1_n12
noncomputable def FldSeq1_n15 : Code := cL FldSeq1_n10
noncomputable def FldSeq1_n16 : Code := cL FldSeq1_n15
noncomputable def FldSeq1_n17 : Code := cR FldSeq1_n15
noncomputable def FldSeq1_n18 : Code := cL FldSeq1_n17
noncomputable def FldSeq1_n19 : Code := cR FldSeq1_n17
noncomputable def FldSeq1_n20 : Code := cL FldSeq1_n18
noncomputable def FldSeq1_n21 : Code := cR FldSeq1_n18
noncomputable def FldSeq1_n22 : Code := cL FldSeq1_n21
noncomputable def FldSeq1_n23 : Code := cR FldSeq1_n21
noncomputable def FldSeq1_n24 : Code := cL FldSeq1_n22
noncomputable def FldSeq1_n25 : Code := cR FldSeq1_n22
noncomputable def FldSeq1_n26 : Code := cL FldSeq1_n25
noncomputable def FldSeq1_n27 : Code := cR FldSeq1_n25
noncomputable def FldSeq1_n28 : Code := cL FldSeq1_n26
noncomputable def FldSeq1_n29 : Code := cR FldSeq1_n26
noncomputable def FldSeq1_n30 : Code := cL FldSeq1_n28
noncomputable def FldSeq1_n31 : Code := cR FldSeq1_n28
noncomputable def FldSeq1_n32 : Code := cL FldSeq1_n31
noncomputable def FldSeq1_n33 : Code := cR FldSeq1_n31
noncomputable def FldSeq1_n34 : Code := cL FldSeq1_n23
noncomputable def FldSeq1_n35 : Code := cR FldSeq1_n23
noncomputable def FldSeq1_n36 : Code := cL FldSeq1_n35
noncomputable def FldSeq1_n37 : Code := cR FldSeq1_n35
noncomputable def FldSeq1_n38 : Code := cL FldSeq1_n4
noncomputable def FldSeq1_n39 : Code := cR FldSeq1_n4
noncomputable def FldSeq1_n40 : Code := cL FldSeq1_n39
noncomputable def FldSeq1_n41 : Code := cR FldSeq1_n39
set_option maxHeartbeats 1000000 in
set_option maxRecDepth 10000 in
theorem FldSeq1_iter {M : Hp} {X : Fr} (s : List UInt8) (hs : s.length ≤ 2000) {b1 b2 : Nat} (hb1 : BxM M b1 9 [.string (sB s)]) (hb2 : BxM M b2 44 [.func (.func 19) #[] #[]]) (hu : U8T (M.un X.h)) : InF.IterE Tryd.prog 35 [.pointer (some ⟨b1, 0, none⟩), .pointer (some ⟨b2, 0, none⟩)] (fun k => .string (sB (ga (fldA [] s) k))) (fldA [] s).length M X := by
 intro l J Jx w M1 B hle0 hY S hJ0
 replace hb1 := hb1.mono hle0
 replace hb2 := hb2.mono hle0
 replace hu := hu.mono (Hp.un_mono hle0 S.mx)
 refine InF.calls_in (b := FldSeq1_n0) Tryd.func35 rfl Tryd.ntmps35 rfl (fun C hCr hC => ?_)
 have hCF : C.F = Fence.wide := by unfold InF.Ctx.F; rw [hCr]
 refine InF.ws_sub [(0, _), (1, _), (2, _)] ⟨rfl, rfl, rfl, trivial⟩ ?_
 refine ws_seqN FldSeq1_n1 FldSeq1_n2 rfl rfl rfl ?_
 refine ws_region rfl ?_
 refine wl_op (k := 0) (k' := 1) rfl rfl rfl (wo_run rfl rfl (run_assign rfl rfl) ?_)
 refine wl_end rfl ?_
 refine nm_thn ?_
 refine ws_seqN FldSeq1_n3 FldSeq1_n4 rfl rfl rfl ?_
 refine ws_seqN FldSeq1_n5 FldSeq1_n6 rfl rfl rfl ?_
 refine ws_region rfl ?_
 refine wl_op (k := 0) (k' := 1) rfl rfl rfl (wo_run rfl rfl (run_assign rfl rfl) ?_)
 refine wl_end rfl ?_
 refine nm_thn ?_
 refine ws_blockN FldSeq1_n7 0 rfl rfl rfl ?_
 refine ws_loopE (fun mx_ ax_ wx_ => ∃ (i : Nat) (st : Int) (k : Nat) (cur : List UInt8) (B1 : Rs) (M2 : Hp), M1.le M2 ∧ mx_ = s.length - i ∧ Env 44 [(0, .func (.yield l) #[] #[]), (1, .pointer (some ⟨b1, 0, none⟩)), (2, .pointer (some ⟨b2, 0, none⟩)), (4, .int .i64 st), (5, .int .i64 (i : Int))] ax_ ∧ SH wx_ M2 X [B1] ∧ FldS s k i st cur ∧ k ≤ (fldA [] s).length ∧ J k M2 B1) rfl ?_ ?_
 ·intro ax_ hax_
  refine ⟨_, ⟨0, (-1), 0, [], _, _, Hp.le_refl _, rfl, hax_.sub ⟨rfl, rfl, rfl, rfl, rfl, trivial⟩, S.pick [0] [_] (by decide) ⟨rfl, trivial⟩, ?hq1f0, ?hq1f1, ?hq1f2⟩⟩
  case hq1f0 => exact FldS.zero s
  case hq1f1 => exact Nat.zero_le _
  case hq1f2 => exact hJ0
 ·rintro m1 a1 w1 ⟨i, st, k, cur, B1, M2, hle1, rfl, he1, S1, hF, hk, hJa⟩
  clear S
  refine ws_in he1 (c := FldSeq1_n8) rfl ?_
  clear he1 a1
  replace hb1 := hb1.mono hle1
  replace hb2 := hb2.mono hle1
  replace hu := hu.mono (Hp.un_mono hle1 S1.mx)
  have hbd := hF.bd
  have hle9 := hF.le
  refine ws_seqN FldSeq1_n9 FldSeq1_n10 rfl rfl rfl ?_
  refine ws_seqN FldSeq1_n11 FldSeq1_n12 rfl rfl rfl ?_
  refine ws_region rfl ?_
  refine wl_op (k := 0) (k' := 1) rfl rfl rfl (wo_run rfl rfl (run_move rfl rfl) ?_)
  refine wl_op (k := 1) (k' := 2) rfl rfl rfl (wo_run rfl rfl (run_load1 rfl rfl Tryd.underlying9 rfl (hb1.cell S1.m rfl)) ?_)
  refine wl_op (k := 2) (k' := 3) rfl rfl rfl (wo_run rfl rfl (run_lenS rfl rfl rfl rfl rfl rfl Tryd.underlying9) ?_)
  refine wl_op (k := 3) (k' := 4) rfl rfl rfl (wo_run rfl rfl (run_lss rfl rfl rfl) ?_)
  refine wl_end rfl ?_
  refine nm_sub [(0, _), (1, _), (2, _), (4, _), (5, _), (11, _)] ⟨rfl, rfl, rfl, rfl, rfl, rfl, trivial⟩ ?_
  refine nm_thn ?_
  refine ws_condN FldSeq1_n13 FldSeq1_n14 rfl rfl rfl rfl (fun hb11 => ?_) (fun hb11 => ?_)
  ·replace hb11 := of_decide_eq_true hb11
   refine ws_skip rfl ?_
   refine nm_sub [(0, _), (1, _), (2, _), (4, _), (5, _)] ⟨rfl, rfl, rfl, rfl, rfl, trivial⟩ ?_
   refine nm_thn ?_
   refine ws_blockN FldSeq1_n15 1 rfl rfl rfl ?_
   refine ws_seqN FldSeq1_n16 FldSeq1_n17 rfl rfl rfl ?_
   refine ws_region rfl ?_
   refine wl_op (k := 0) (k' := 1) rfl rfl rfl (wo_run rfl rfl (run_load1 rfl rfl Tryd.underlying9 rfl (hb1.cell S1.m rfl)) ?_)
   refine wl_op (k := 1) (k' := 2) rfl rfl rfl (wo_run rfl rfl (run_move rfl rfl) ?_)
   refine wl_op (k := 2) (k' := 3) rfl rfl rfl (wo_run rfl rfl (run_dropS i rfl rfl rfl Tryd.underlying9 ((by first | omega | (simp only [lens]; omega)))) ?_)
   refine wl_op (k := 3) (k' := 4) rfl rfl rfl (wo_cq rfl rfl rfl rfl rfl rfl rfl cf36 S1 (dec_q (s.drop i) (hu.mono S1.un_XH) S1.lend) ?_)
   rintro _ w2 S2 rfl; clear S1
   refine wl_op (k := 4) (k' := 5) rfl rfl rfl (wo_run rfl rfl (run_move rfl rfl) ?_)
   refine wl_op (k := 5) (k' := 6) rfl rfl rfl (wo_run rfl rfl (run_extract rfl rfl rfl) ?_)
   refine wl_op (k := 6) (k' := 7) rfl rfl rfl (wo_run rfl rfl (run_extract rfl rfl rfl) ?_)
   refine wl_op (k := 7) (k' := 8) rfl rfl rfl (wo_run rfl rfl (run_assign rfl rfl) ?_)
   refine wl_op (k := 8) (k' := 9) rfl rfl rfl (wo_run rfl rfl (run_assign rfl rfl) ?_)
   refine wl_end rfl ?_
   refine nm_sub [(0, _), (1, _), (2, _), (4, _), (5, _), (6, _), (7, _)] ⟨rfl, rfl, rfl, rfl, rfl, rfl, rfl, trivial⟩ ?_
   refine nm_thn ?_
   refine ws_seqN FldSeq1_n18 FldSeq1_n19 rfl rfl rfl ?_
   refine ws_seqN FldSeq1_n20 FldSeq1_n21 rfl rfl rfl ?_
   have hz9 := dcR_bd (s := s) (i := i) (by omega)
   have hz8 := hz9
   unfold dcR at hz8
   refine ws_region rfl ?_
   refine wl_op (k := 0) (k' := 1) rfl rfl rfl (wo_run rfl rfl (run_load1 rfl rfl Tryd.underlying44 rfl (hb2.cell S2.m rfl)) ?_)
   refine wl_op (k := 1) (k' := 2) rfl rfl rfl (wo_run rfl rfl (run_move rfl rfl) ?_)
   refine wl_op (k := 2) (k' := 3) rfl rfl rfl (wo_cq rfl rfl rfl rfl rfl rfl rfl cf19 S2 (Read1_q ((dcR s i).1 : Int) S2.lend) ?_)
   rintro _ w3 S3 rfl; clear S2
   refine wl_end rfl ?_
   refine nm_sub [(0, _), (1, _), (2, _), (4, _), (5, _), (7, _), (21, _)] ⟨rfl, rfl, rfl, rfl, rfl, rfl, rfl, trivial⟩ ?_
   refine nm_thn ?_
   refine ws_condN FldSeq1_n22 FldSeq1_n23 rfl rfl rfl rfl (fun hb21 => ?_) (fun hb21 => ?_)
   ·have hbl : isR ((dcR s i).1 : Int) = true := by simpa using hb21
    refine ws_seqN FldSeq1_n24 FldSeq1_n25 rfl rfl rfl ?_
    refine ws_region rfl ?_
    refine wl_op (k := 0) (k' := 1) rfl rfl rfl (wo_run rfl rfl (run_move rfl rfl) ?_)
    refine wl_op (k := 1) (k' := 2) rfl rfl rfl (wo_run rfl rfl (run_geq rfl rfl rfl) ?_)
    refine wl_end rfl ?_
    refine nm_sub [(0, _), (1, _), (2, _), (4, _), (5, _), (7, _), (23, _)] ⟨rfl, rfl, rfl, rfl, rfl, rfl, rfl, trivial⟩ ?_
    refine nm_thn ?_
    refine ws_condN FldSeq1_n26 FldSeq1_n27 rfl rfl rfl rfl (fun hb23 => ?_) (fun hb23 => ?_)
    ·replace hb23 := of_decide_eq_true hb23
     refine ws_seqN FldSeq1_n28 FldSeq1_n29 rfl rfl rfl ?_
     refine ws_seqN FldSeq1_n30 FldSeq1_n31 rfl rfl rfl ?_
     refine ws_region rfl ?_
     refine wl_op (k := 0) (k' := 1) rfl rfl rfl (wo_run rfl rfl (run_move rfl rfl) ?_)
     refine wl_op (k := 1) (k' := 2) rfl rfl rfl (wo_run rfl rfl (run_load1 rfl rfl Tryd.underlying9 rfl (hb1.cell S3.m rfl)) ?_)
     refine wl_op (k := 2) (k' := 3) rfl rfl rfl (wo_run rfl rfl (run_move rfl rfl) ?_)
     refine wl_op (k := 3) (k' := 4) rfl rfl rfl (wo_run rfl rfl (run_move rfl rfl) ?_)
     refine wl_op (k := 4) (k' := 5) rfl rfl rfl (wo_run rfl rfl (run_cutSI st.toNat i rfl rfl rfl rfl Tryd.underlying9 (by omega) (by omega) (by first | omega | (simp only [lens]; omega)) (by first | omega | (simp only [lens]; omega))) ?_)
     obtain ⟨hw1a, hw1b, hw1c⟩ := hF.word (by omega) hbl (by omega)
     rw [(hF.yes (by omega)).2.2] at hw1b
     refine wl_yield (k := 5) (k' := 6) rfl rfl rfl rfl rfl rfl rfl rfl rfl rfl (by rw [hCF]; have h9 := hY k _ _ _ hw1a (hle1) S3 hJa; dsimp only at h9; rw [hw1b] at h9; exact h9) ?_
     rintro _ w4 ⟨by1, rfl, M3, B6, hle2, S4, hJ1, hX1⟩; clear S3
     replace hb1 := hb1.mono hle2
     replace hb2 := hb2.mono hle2
     replace hu := hu.mono (Hp.un_mono hle2 S4.mx)
     refine wl_op (k := 6) (k' := 7) rfl rfl rfl (wo_run rfl rfl (run_not rfl rfl) ?_)
     refine wl_end rfl ?_
     refine nm_sub [(0, _), (1, _), (2, _), (5, _), (7, _), (30, _)] ⟨rfl, rfl, rfl, rfl, rfl, rfl, trivial⟩ ?_
     refine nm_thn ?_
     refine ws_condN FldSeq1_n32 FldSeq1_n33 rfl rfl rfl rfl (fun hb30 => ?_) (fun hb30 => ?_)
     ·simp only [Bool.and_eq_true, Bool.or_eq_true, Bool.and_eq_false_iff, Bool.or_eq_false_iff, decide_eq_true_eq, decide_eq_false_iff_not, Bool.not_eq_true', Bool.not_eq_false'] at hb30
      refine ws_ret hC [] rfl rfl trivial ?_
      exact ⟨⟨_, rfl⟩, _, _, hle1.trans hle2, S4, .inr ⟨k + 1, hw1a, hX1 (by simpa using hb30)⟩⟩
     ·simp only [Bool.and_eq_true, Bool.or_eq_true, Bool.and_eq_false_iff, Bool.or_eq_false_iff, decide_eq_true_eq, decide_eq_false_iff_not, Bool.not_eq_true', Bool.not_eq_false'] at hb30
      refine ws_skip rfl ?_
      refine nm_sub [(0, _), (1, _), (2, _), (5, _), (7, _)] ⟨rfl, rfl, rfl, rfl, rfl, trivial⟩ ?_
      refine nm_thn ?_
      refine ws_region rfl ?_
      refine wl_op (k := 0) (k' := 1) rfl rfl rfl (wo_run rfl rfl (run_assign rfl rfl) ?_)
      refine wl_end rfl ?_
      refine nm_thn ?_
      refine ws_region rfl ?_
      refine wl_op (k := 0) (k' := 1) rfl rfl rfl (wo_run rfl rfl (run_move rfl rfl) ?_)
      refine wl_op (k := 1) (k' := 2) rfl rfl rfl (wo_run rfl rfl (run_move rfl rfl) ?_)
      refine wl_op (k := 2) (k' := 3) rfl rfl rfl (wo_run rfl rfl (run_add rfl rfl rfl (by first | omega | (simp only [lens]; omega))) ?_)
      refine wl_op (k := 3) (k' := 4) rfl rfl rfl (wo_run rfl rfl (run_assign rfl rfl) ?_)
      refine wl_end rfl ?_
      refine nm_blk ?_
      refine nm_lp ?_
      intro ax_ hax_
      refine ⟨_, ?hq2m, ⟨i + (dcR s i).2, (-1), k + 1, [], _, _, (hle1.trans hle2), rfl, hax_.sub ⟨rfl, rfl, rfl, rfl, rfl, trivial⟩, S4.pick [0] [_] (by decide) ⟨rfl, trivial⟩, ?hq2f0, ?hq2f1, ?hq2f2⟩⟩
      case hq2f0 => first | exact hF.blank0 (by omega) hbl (by omega) | assumption | (have h9 := hF.go (by omega) hbl; rw [if_pos (by omega)] at h9; exact h9) | (have h9 := hF.go (by omega) hbl; rw [if_neg (by omega)] at h9; exact h9)
      case hq2f1 => omega
      case hq2f2 => first | exact hJa | assumption | (exact ‹_ = true → _› (by simpa using hb30))
      case hq2m => omega
    ·replace hb23 := of_decide_eq_false hb23
     refine ws_skip rfl ?_
     refine nm_sub [(0, _), (1, _), (2, _), (4, _), (5, _), (7, _)] ⟨rfl, rfl, rfl, rfl, rfl, rfl, trivial⟩ ?_
     refine nm_thn ?_
     refine ws_region rfl ?_
     refine wl_op (k := 0) (k' := 1) rfl rfl rfl (wo_run rfl rfl (run_move rfl rfl) ?_)
     refine wl_op (k := 1) (k' := 2) rfl rfl rfl (wo_run rfl rfl (run_move rfl rfl) ?_)
     refine wl_op (k := 2) (k' := 3) rfl rfl rfl (wo_run rfl rfl (run_add rfl rfl rfl (by first | omega | (simp only [lens]; omega))) ?_)
     refine wl_op (k := 3) (k' := 4) rfl rfl rfl (wo_run rfl rfl (run_assign rfl rfl) ?_)
     refine wl_end rfl ?_
     refine nm_blk ?_
     refine nm_lp ?_
     intro ax_ hax_
     refine ⟨_, ?hq3m, ⟨i + (dcR s i).2, st, k, cur, _, _, (hle1), rfl, hax_.sub ⟨rfl, rfl, rfl, rfl, rfl, trivial⟩, S3.pick [0] [_] (by decide) ⟨rfl, trivial⟩, ?hq3f0, ?hq3f1, ?hq3f2⟩⟩
     case hq3f0 => first | exact hF.blank0 (by omega) hbl (by omega) | assumption | (have h9 := hF.go (by omega) hbl; rw [if_pos (by omega)] at h9; exact h9) | (have h9 := hF.go (by omega) hbl; rw [if_neg (by omega)] at h9; exact h9)
     case hq3f1 => omega
     case hq3f2 => first | exact hJa | assumption | (exact ‹_ = true → _› (by simpa using hb30))
     case hq3m => omega
   ·have hbl : isR ((dcR s i).1 : Int) = false := by simpa using hb21
    refine ws_seqN FldSeq1_n34 FldSeq1_n35 rfl rfl rfl ?_
    refine ws_region rfl ?_
    refine wl_op (k := 0) (k' := 1) rfl rfl rfl (wo_run rfl rfl (run_move rfl rfl) ?_)
    refine wl_op (k := 1) (k' := 2) rfl rfl rfl (wo_run rfl rfl (run_lss rfl rfl rfl) ?_)
    refine wl_end rfl ?_
    refine nm_sub [(0, _), (1, _), (2, _), (4, _), (5, _), (7, _), (32, _)] ⟨rfl, rfl, rfl, rfl, rfl, rfl, rfl, trivial⟩ ?_
    refine nm_thn ?_
    refine ws_condN FldSeq1_n36 FldSeq1_n37 rfl rfl rfl rfl (fun hb32 => ?_) (fun hb32 => ?_)
    ·replace hb32 := of_decide_eq_true hb32
     refine ws_region rfl ?_
     refine wl_op (k := 0) (k' := 1) rfl rfl rfl (wo_run rfl rfl (run_move rfl rfl) ?_)
     refine wl_op (k := 1) (k' := 2) rfl rfl rfl (wo_run rfl rfl (run_assign rfl rfl) ?_)
     refine wl_end rfl ?_
     refine nm_sub [(0, _), (1, _), (2, _), (4, _), (5, _), (7, _)] ⟨rfl, rfl, rfl, rfl, rfl, rfl, trivial⟩ ?_
     refine nm_thn ?_
     refine ws_region rfl ?_
     refine wl_op (k := 0) (k' := 1) rfl rfl rfl (wo_run rfl rfl (run_move rfl rfl) ?_)
     refine wl_op (k := 1) (k' := 2) rfl rfl rfl (wo_run rfl rfl (run_move rfl rfl) ?_)
     refine wl_op (k := 2) (k' := 3) rfl rfl rfl (wo_run rfl rfl (run_add rfl rfl rfl (by first | omega | (simp only [lens]; omega))) ?_)
     refine wl_op (k := 3) (k' := 4) rfl rfl rfl (wo_run rfl rfl (run_assign rfl rfl) ?_)
     refine wl_end rfl ?_
     refine nm_blk ?_
     refine nm_lp ?_
     intro ax_ hax_
     refine ⟨_, ?hq4m, ⟨i + (dcR s i).2, (i : Int), k, cur ++ (s.drop i).take (dcR s i).2, _, _, (hle1), rfl, hax_.sub ⟨rfl, rfl, rfl, rfl, rfl, trivial⟩, S3.pick [0] [_] (by decide) ⟨rfl, trivial⟩, ?hq4f0, ?hq4f1, ?hq4f2⟩⟩
     case hq4f0 => first | exact hF.blank0 (by omega) hbl (by omega) | assumption | (have h9 := hF.go (by omega) hbl; rw [if_pos (by omega)] at h9; exact h9) | (have h9 := hF.go (by omega) hbl; rw [if_neg (by omega)] at h9; exact h9)
     case hq4f1 => omega
     case hq4f2 => first | exact hJa | assumption | (exact ‹_ = true → _› (by simpa using hb30))
     case hq4m => omega
    ·replace hb32 := of_decide_eq_false hb32
     refine ws_skip rfl ?_
     refine nm_sub [(0, _), (1, _), (2, _), (4, _), (5, _), (7, _)] ⟨rfl, rfl, rfl, rfl, rfl, rfl, trivial⟩ ?_
     refine nm_thn ?_
     refine ws_region rfl ?_
     refine wl_op (k := 0) (k' := 1) rfl rfl rfl (wo_run rfl rfl (run_move rfl rfl) ?_)
     refine wl_op (k := 1) (k' := 2) rfl rfl rfl (wo_run rfl rfl (run_move rfl rfl) ?_)
     refine wl_op (k := 2) (k' := 3) rfl rfl rfl (wo_run rfl rfl (run_add rfl rfl rfl (by first | omega | (simp only [lens]; omega))) ?_)
     refine wl_op (k := 3) (k' := 4) rfl rfl rfl (wo_run rfl rfl (run_assign rfl rfl) ?_)
     refine wl_end rfl ?_
     refine nm_blk ?_
     refine nm_lp ?_
     intro ax_ hax_
     refine ⟨_, ?hq5m, ⟨i + (dcR s i).2, st, k, cur ++ (s.drop i).take (dcR s i).2, _, _, (hle1), rfl, hax_.sub ⟨rfl, rfl, rfl, rfl, rfl, trivial⟩, S3.pick [0] [_] (by decide) ⟨rfl, trivial⟩, ?hq5f0, ?hq5f1, ?hq5f2⟩⟩
     case hq5f0 => first | exact hF.blank0 (by omega) hbl (by omega) | assumption | (have h9 := hF.go (by omega) hbl; rw [if_pos (by omega)] at h9; exact h9) | (have h9 := hF.go (by omega) hbl; rw [if_neg (by omega)] at h9; exact h9)
     case hq5f1 => omega
     case hq5f2 => first | exact hJa | assumption | (exact ‹_ = true → _› (by simpa using hb30))
     case hq5m => omega
  ·replace hb11 := of_decide_eq_false hb11
   refine ws_exit rfl rfl ?_
   refine nm_sub [(0, _), (1, _), (4, _)] ⟨rfl, rfl, rfl, trivial⟩ ?_
   refine nm_thn ?_
   refine ws_seqN FldSeq1_n38 FldSeq1_n39 rfl rfl rfl ?_
   refine ws_region rfl ?_
   refine wl_op (k := 0) (k' := 1) rfl rfl rfl (wo_run rfl rfl (run_move rfl rfl) ?_)
   refine wl_op (k := 1) (k' := 2) rfl rfl rfl (wo_run rfl rfl (run_geq rfl rfl rfl) ?_)
   refine wl_end rfl ?_
   refine nm_sub [(0, _), (1, _), (4, _), (38, _)] ⟨rfl, rfl, rfl, rfl, trivial⟩ ?_
   refine nm_thn ?_
   refine ws_condN FldSeq1_n40 FldSeq1_n41 rfl rfl rfl rfl (fun hb38 => ?_) (fun hb38 => ?_)
   ·replace hb38 := of_decide_eq_true hb38
    refine ws_region rfl ?_
    refine wl_op (k := 0) (k' := 1) rfl rfl rfl (wo_run rfl rfl (run_move rfl rfl) ?_)
    refine wl_op (k := 1) (k' := 2) rfl rfl rfl (wo_run rfl rfl (run_load1 rfl rfl Tryd.underlying9 rfl (hb1.cell S1.m rfl)) ?_)
    refine wl_op (k := 2) (k' := 3) rfl rfl rfl (wo_run rfl rfl (run_move rfl rfl) ?_)
    refine wl_op (k := 3) (k' := 4) rfl rfl rfl (wo_run rfl rfl (run_dropSI st.toNat rfl rfl rfl Tryd.underlying9 (by omega) (by first | omega | (simp only [lens]; omega))) ?_)
    obtain ⟨hw2a, hw2b, hw2c⟩ := hF.end1 (by omega) (by omega)
    refine wl_yield (k := 4) (k' := 5) rfl rfl rfl rfl rfl rfl rfl rfl rfl rfl (by rw [hCF]; have h9 := hY k _ _ _ hw2a (hle1) S1 hJa; dsimp only at h9; rw [hw2b] at h9; exact h9) ?_
    rintro _ w5 ⟨by2, rfl, M4, B7, hle3, S5, hJ2, hX2⟩; clear S1
    replace hb1 := hb1.mono hle3
    replace hb2 := hb2.mono hle3
    replace hu := hu.mono (Hp.un_mono hle3 S5.mx)
    refine wl_end rfl ?_
    refine nm_end hC [] rfl trivial ?_
    refine ⟨⟨_, rfl⟩, _, _, hle1.trans hle3, S5, ?_⟩
    cases by2 with
    | true => exact .inl (by rw [← hw2c]; exact hJ2 rfl)
    | false => exact .inr ⟨k + 1, hw2a, hX2 rfl⟩
   ·replace hb38 := of_decide_eq_false hb38
    refine ws_skip rfl ?_
    refine nm_end hC [] rfl trivial ?_
    exact ⟨⟨_, rfl⟩, _, _, hle1, S1, .inl (by rw [← hF.end0 (by omega) (by omega) hk]; exact hJa)⟩
end InF
end Go.Proofs.YtklcecpjgingpaaDoor
namespace Go.Proofs.YtklcecpjgingpaaDoor
open Go.ChangeShapes Go.WideShapes Go.ChangeAt Go.RowKit
/-- What is left to show where a function's results are handed out. -/
def RT (P : Program) (n : Nat) (fn : Func) (R : Ending → World → Prop) (L : List (Nat × Value)) (w : World) : Prop := ∀ a, Env n L a → ∃ v, (results fn a.tmps).run P w = .ok v w ∧ R (.returned v) w
section
variable {P : Program} {n : Nat} {C : InF.Ctx} {c : Code} {s : List K} {L : List (Nat × Value)} {w : World} {M : Hp} {X : Fr} {H : List Rs} {fn : Func} {R : Ending → World → Prop}
/-- An activation that bears a mark hands its results out. -/
theorem leave_d (hC : C.Q = bodyPostM Fence.wide 0 P fn R) {l D : Nat} {rc : Loop} {Hs : List Rs} {a : Act} (ha : Env n L a) (S : SH w M X (Rs.lr l D rc :: Hs)) (h : ∀ w', SH w' M X Hs → RT P n fn R L w') : C.Q .ret { a with defers := [{ target := .collected D, args := #[] }] } w := by
  obtain ⟨_, hD⟩ := S.ok (Rs.lr l D rc) (by simp)
  rw [hC]
  refine ⟨by simp, .inl ⟨D, _, rfl, run_takeDeferred hD, ?_⟩⟩
  exact h _ (InF.lr_take S) a ha
theorem rt_of {rs : List ResultVar} (vs : List Value) (hr : fn.results = rs.toArray) (h : ResIs P L w rs vs) (hR : R (.returned (tup vs)) w) : RT P n fn R L w := fun _ ha => ⟨tup vs, run_results ha hr h, hR⟩
namespace InD
theorem ws_take (hC : C.Q = bodyPostM Fence.wide 0 P fn R) (hk : kind c = 6) {l D : Nat} {rc : Loop} {Hs : List Rs} (S : SH w M X (Rs.lr l D rc :: Hs)) (h : ∀ w', SH w' M X Hs → RT P n fn R L w') : WS P [{ target := .collected D, args := #[] }] n C c s L w := by
  intro a ha
  rw [kind_ret hk]
  refine wpIn_ret (InF.post_ret ?_)
  have e : a = { ({ a with defers := [] } : Act) with defers := [{ target := .collected D, args := #[] }] } := by
    have := ha.df
    cases a; simp only at this; subst this; rfl
  rw [e]
  exact leave_d hC ha.toEnv S h
theorem ws_ret (_hC : C.Q = bodyPostM Fence.wide 0 P fn R) {rs : List ResultVar} (vs : List Value) (hr : fn.results = rs.toArray) (_hk : True = True) (h : ResIs P L w rs vs) (hR : R (.returned (tup vs)) w) : RT P n fn R L w := rt_of vs hr h hR
end InD
namespace InF.M
/-- A function that will hold such a loop, left ahead of it. -/
theorem ws_ret (hC : C.Q = bodyPostM Fence.wide 0 P fn R) {rs : List ResultVar} (vs : List Value) (hr : fn.results = rs.toArray) (hk : kind c = 6) (h : ResIs P L w rs vs) (hR : R (.returned (tup vs)) w) : InF.WS P n C c s L w := by
  refine InF.ws_retQ hk fun a ha => ?_
  rw [hC]
  show LeavesInM Fence.wide 0 P fn a.tmps R a.defers .returning w
  rw [ha.df]
  exact ⟨tup vs, run_results ha hr h, hR⟩
end InF.M
end
end Go.Proofs.YtklcecpjgingpaaDoor
namespace Go.Proofs.YtklcecpjgingpaaDoor
open Go.ChangeShapes Go.WideShapes Go.ChangeAt Go.RowKit
theorem fldA_many : ∀ (s cur : List UInt8), (fldA cur s).length ≤ s.length + (if cur = [] then 0 else 1)
 | [], cur => by unfold fldA; split <;> simp
 | c :: s, cur => by
  unfold fldA
  have h0 := fldA_many s []
  have h1 := fldA_many s (cur ++ [c])
  rw [if_pos rfl] at h0
  rw [if_neg (by simp)] at h1
  split
  ·split
   ·simp only [List.length_cons]; omega
   ·simp only [List.length_cons]; omega
  ·simp only [List.length_cons]; split <;> omega
theorem fldA_word_len : ∀ (s cur : List UInt8), ∀ w ∈ fldA cur s, w.length ≤ cur.length + s.length
 | [], cur, w, h => by
  unfold fldA at h
  split at h
  ·cases h
  ·rw [List.mem_singleton.1 h]; simp
 | c :: s, cur, w, h => by
  unfold fldA at h
  split at h
  ·split at h
   ·have := fldA_word_len s [] w h; simp only [List.length_cons, List.length_nil] at this ⊢; omega
   ·rcases List.mem_cons.1 h with e | h
    ·rw [e]; simp
    ·have := fldA_word_len s [] w h; simp only [List.length_cons, List.length_nil] at this ⊢; omega
  ·have := fldA_word_len s (cur ++ [c]) w h; simp only [List.length_append, List.length_cons, List.length_nil] at this ⊢; omega
section
variable {ws : List (List UInt8)} {k : Nat} {cr : List Cr} {lp : Int}
theorem cd_O (hk : k < ws.length) (h : ga ws k = [79]) : cdP (ws.drop k) ⟨cr, lp⟩ = cdP (ws.drop (k + 1)) ⟨cr, lp + 1⟩ := by
 rw [List.drop_eq_getElem_cons hk, ← ga_eq hk, cdP, if_pos h]
theorem cd_X (hk : k < ws.length) (h : ¬ ga ws k = [79]) (hx : (crossP (ga ws k)).isSome = true) : cdP (ws.drop k) ⟨cr, lp⟩ = cdP (ws.drop (k + 1)) ⟨cr ++ [crE (crossP (ga ws k))], lp⟩ := by
 rw [List.drop_eq_getElem_cons hk, ← ga_eq hk, cdP, if_neg h]
 cases e : crossP (ga ws k) with
 | none => rw [e] at hx; cases hx
 | some x => rfl
theorem cd_N (hk : k < ws.length) (h : ¬ ga ws k = [79]) (hx : (crossP (ga ws k)).isSome = false) : cdP (ws.drop k) ⟨cr, lp⟩ = none := by
 rw [List.drop_eq_getElem_cons hk, ← ga_eq hk, cdP, if_neg h]
 cases e : crossP (ga ws k) with
 | none => rfl
 | some x => rw [e] at hx; cases hx
end
def rqA : Code → Code
 | .rangeFunc _ _ a _ => a
 | c => c
def rqB : Code → Code
 | .rangeFunc _ _ _ b => b
 | c => c
/-- What holds between two rounds of Read. -/
def ReadI (s : List UInt8) (g2 g3 g5 k : Nat) (M : Hp) (H : List Rs) : Prop := ∃ v cr lp,
 H = [Rs.row cdCr v cr, Rs.box g5 30 [v, .int .i64 lp], Rs.box g3 23 [.int .i64 0], Rs.box g2 30 [.slice none 0 0, .int .i64 0]] ∧ cdP ((fldA [] s).drop k) ⟨cr, lp⟩ = cdP (fldA [] s) ⟨[], 0⟩ ∧ cr.length ≤ k ∧ 0 ≤ lp ∧ lp ≤ k
/-- What holds where a round leaves Read. -/
def ReadIx (s : List UInt8) (g2 g3 : Nat) (M : Hp) (H : List Rs) : Prop := H = [Rs.box g3 23 [.int .i64 1], Rs.box g2 30 [.slice none 0 0, .int .i64 0]] ∧ cdP (fldA [] s) ⟨[], 0⟩ = none
def ReadI1 (s : List UInt8) (g2 g3 g5 k : Nat) (a : Act) (M : Hp) (H : List Rs) : Prop := Env 42 [(2, .pointer (some ⟨g2, 0, none⟩)), (3, .pointer (some ⟨g3, 0, none⟩)), (5, .pointer (some ⟨g5, 0, none⟩)), (6, .string (sB (ga (fldA [] s) k)))] a ∧ ReadI s g2 g3 g5 k M H
noncomputable def Read_rf : Code := cL (cR (cL (cR (cR (cR (cR (Tryd.f8.body.getD .skip)))))))
noncomputable def Read_tl : Code := cR (cR (cR (cR (cR (Tryd.f8.body.getD .skip)))))
namespace InF
set_option maxRecDepth 10000 in
theorem Read_assign {w : World} {M : Hp} {X : Fr} {s : List UInt8} {gq2 gq3 gq5 k : Nat} {C : Ctx} {R0 : Rs} {H : List Rs} {L : List (Nat × Value)} (hL : Sub L [(2, .pointer (some ⟨gq2, 0, none⟩)), (3, .pointer (some ⟨gq3, 0, none⟩)), (5, .pointer (some ⟨gq5, 0, none⟩)), (16, .string (sB (ga (fldA [] s) k)))]) (S : SH w M X (R0 :: H)) (hI : ReadI s gq2 gq3 gq5 k M H) :
  WS Tryd.prog 42 C (rqA Read_rf) [.lp (fun a w2 => ∃ M2 H2, M.le M2 ∧ SH w2 M2 X (R0 :: H2) ∧ ReadI1 s gq2 gq3 gq5 k a M2 H2)] L w := by
 refine ws_sub _ hL ?_
 refine ws_region rfl ?_
 refine wl_op (k := 0) (k' := 1) rfl rfl rfl (wo_run rfl rfl (run_assign rfl rfl) ?_)
 refine wl_end rfl ?_
 refine nm_lp ?_
 intro ax_ hax_
 exact ⟨M, _, Hp.le_refl _, S, hax_.sub ⟨rfl, rfl, rfl, rfl, trivial⟩, hI⟩
noncomputable def ReadB_n1 : Code := rqB Read_rf
noncomputable def ReadB_n2 : Code := cL ReadB_n1
noncomputable def ReadB_n3 : Code := cL ReadB_n2
noncomputable def ReadB_n4 : Code := cR ReadB_n2
noncomputable def ReadB_n5 : Code := cL ReadB_n3
noncomputable def ReadB_n6 : Code := cR ReadB_n3
noncomputable def ReadB_n7 : Code := cL ReadB_n6
noncomputable def ReadB_n8 : Code := cR ReadB_n6
noncomputable def ReadB_n9 : Code := cL ReadB_n7
noncomputable def ReadB_n10 : Code := cR ReadB_n7
noncomputable def ReadB_n11 : Code := cL ReadB_n4
noncomputable def ReadB_n12 : Code := cR ReadB_n4
noncomputable def ReadB_n13 : Code := cL ReadB_n12
noncomputable def ReadB_n14 : Code := cR ReadB_n12
noncomputable def ReadB_n15 : Code := cL ReadB_n13
noncomputable def ReadB_n16 : Code := cR ReadB_n13
noncomputable def ReadB_n17 : Code := cL ReadB_n16
noncomputable def ReadB_n18 : Code := cR ReadB_n16
noncomputable def ReadB_n19 : Code := cL ReadB_n17
noncomputable def ReadB_n20 : Code := cR ReadB_n17
set_option maxHeartbeats 1000000 in
set_option maxRecDepth 10000 in
theorem Read_body {w : World} {M : Hp} {X : Fr} {s : List UInt8} (hs : s.length ≤ 2000) (hlb : LibOk (M.un X.h)) {gq2 gq3 gq5 k : Nat} (hk : k < (fldA [] s).length) {C : Ctx} {R0 : Rs} {H : List Rs} {a : Act} (S : SH w M X (R0 :: H)) (hI1 : ReadI1 s gq2 gq3 gq5 k a M H) (hQ : ∀ a w2, (∃ M2 H2, M.le M2 ∧ SH w2 M2 X (R0 :: H2) ∧ ReadIx s gq2 gq3 M2 H2) → C.Q .ret a w2) :
  (rqB Read_rf).wpIn C.F 0 Tryd.prog (post Tryd.prog C [.lp (fun _ w2 => ∃ M2 H2, M.le M2 ∧ SH w2 M2 X (R0 :: H2) ∧ ReadI s gq2 gq3 gq5 (k + 1) M2 H2)]) a w := by
 obtain ⟨ha, hI⟩ := hI1
 obtain ⟨vro, cr, lp, rfl, hcd, hcl, hlp0, hlp1⟩ := hI
 have hfm := fldA_many s []
 rw [if_pos rfl] at hfm
 have hwl := fldA_word_len s [] _ (ga_mem hk)
 simp only [List.length_nil] at hwl
 change SH w M X [R0, Rs.row cdCr vro cr, _, _, _] at S
 refine ws_in ha (c := rqB Read_rf) rfl ?_
 refine ws_blockN ReadB_n2 1 rfl rfl rfl ?_
 refine ws_seqN ReadB_n3 ReadB_n4 rfl rfl rfl ?_
 refine ws_seqN ReadB_n5 ReadB_n6 rfl rfl rfl ?_
 refine ws_region rfl ?_
 refine wl_op (k := 0) (k' := 1) rfl rfl rfl (wo_run rfl rfl (run_move rfl rfl) ?_)
 refine wl_op (k := 1) (k' := 2) rfl rfl rfl (wo_run rfl rfl (run_eqlD rfl rfl rfl) ?_)
 refine wl_end rfl ?_
 refine nm_sub [(2, _), (3, _), (5, _), (6, _), (18, _)] ⟨rfl, rfl, rfl, rfl, rfl, trivial⟩ ?_
 refine nm_thn ?_
 refine ws_condN ReadB_n7 ReadB_n8 rfl rfl rfl rfl (fun hb18 => ?_) (fun hb18 => ?_)
 ·replace hb18 := of_decide_eq_true hb18
  refine ws_seqN ReadB_n9 ReadB_n10 rfl rfl rfl ?_
  refine ws_region rfl ?_
  refine wl_op (k := 0) (k' := 1) rfl rfl rfl (wo_run rfl rfl (run_fieldAddr rfl rfl Tryd.underlying30 rfl (ce3) (nf3)) ?_)
  refine wl_op (k := 1) (k' := 2) rfl rfl rfl (wo_run rfl rfl (run_load1 rfl rfl Tryd.underlying3 rfl (S.boxc (i := 2) rfl rfl)) ?_)
  refine wl_op (k := 2) (k' := 3) rfl rfl rfl (wo_run rfl rfl (run_add rfl rfl rfl (by first | omega | (simp only [lens]; omega))) ?_)
  refine wl_op (k := 3) (k' := 4) rfl rfl rfl (wo_run rfl rfl (run_fieldAddr rfl rfl Tryd.underlying30 rfl (ce3) (nf3)) ?_)
  refine wl_op (k := 4) (k' := 5) rfl rfl rfl (wo_storeB (i := 2) (us := [_]) (l' := [_, _]) (H' := [_, _, _, _, _]) rfl rfl S rfl rfl rfl rfl sz3 rfl rfl rfl rfl ?_)
  intro w1 S1; clear S
  refine wl_end rfl ?_
  refine nm_sub [(2, _), (3, _), (5, _)] ⟨rfl, rfl, rfl, trivial⟩ ?_
  refine nm_thn ?_
  refine ws_exit rfl rfl ?_
  refine nm_lp ?_
  intro ax_ hax_
  exact ⟨_, _, Hp.le_refl _, S1.pick [0, 1, 2, 3, 4] [_, _, _, _, _] (by decide) ⟨rfl, rfl, rfl, rfl, rfl, trivial⟩, _, _, _, rfl, (cd_O hk (by assumption)).symm.trans hcd, by first | omega | (rw [List.length_append]; simp only [List.length_cons, List.length_nil]; omega), by omega, by omega⟩
 ·replace hb18 := of_decide_eq_false hb18
  refine ws_skip rfl ?_
  refine nm_sub [(2, _), (3, _), (5, _), (6, _)] ⟨rfl, rfl, rfl, rfl, trivial⟩ ?_
  refine nm_thn ?_
  refine ws_seqN ReadB_n11 ReadB_n12 rfl rfl rfl ?_
  refine ws_region rfl ?_
  refine wl_op (k := 0) (k' := 1) rfl rfl rfl (wo_run rfl rfl (run_move rfl rfl) ?_)
  refine wl_op (k := 1) (k' := 2) rfl rfl rfl (wo_ct rfl rfl rfl rfl rfl rfl rfl cf21 S (cross_t (ga (fldA [] s) k) (by omega) (hlb.mono S.un_XH) S.lend) ?_)
  intro vw2 w2 M1 hle1 S2 hRw2; clear S
  replace hlb := hlb.mono (Hp.un_mono hle1 S2.mx)
  obtain rfl : vw2 = Value.tuple [.agg [.int .i64 (crE (crossP (ga (fldA [] s) k))).a, .int .i64 (crE (crossP (ga (fldA [] s) k))).b, .int .i64 (crE (crossP (ga (fldA [] s) k))).c, .int .i64 (crE (crossP (ga (fldA [] s) k))).d, .bool (crE (crossP (ga (fldA [] s) k))).plus].toArray, .bool (crossP (ga (fldA [] s) k)).isSome].toArray := hRw2
  refine wl_op (k := 2) (k' := 3) rfl rfl rfl (wo_run rfl rfl (run_move rfl rfl) ?_)
  refine wl_op (k := 3) (k' := 4) rfl rfl rfl (wo_run rfl rfl (run_extract rfl rfl rfl) ?_)
  refine wl_op (k := 4) (k' := 5) rfl rfl rfl (wo_run rfl rfl (run_extract rfl rfl rfl) ?_)
  refine wl_op (k := 5) (k' := 6) rfl rfl rfl (wo_alloc (l := [_, _, _, _, _]) rfl rfl rfl zr49 rfl S2 ?_)
  intro gb1 w3 S3; clear S2
  refine wl_op (k := 6) (k' := 7) rfl rfl rfl (wo_storeB (i := 0) (us := [_, _, _, _, _]) (l' := [_, _, _, _, _]) (H' := [_, _, _, _, _, _]) rfl rfl S3 rfl rfl rfl rfl sz49 rfl rfl rfl rfl ?_)
  intro w4 S4; clear S3
  refine wl_op (k := 7) (k' := 8) rfl rfl rfl (wo_run rfl rfl (run_assign rfl rfl) ?_)
  refine wl_end rfl ?_
  refine nm_sub [(2, _), (3, _), (5, _), (7, _), (8, _)] ⟨rfl, rfl, rfl, rfl, rfl, trivial⟩ ?_
  refine nm_thn ?_
  refine ws_seqN ReadB_n13 ReadB_n14 rfl rfl rfl ?_
  refine ws_seqN ReadB_n15 ReadB_n16 rfl rfl rfl ?_
  refine ws_region rfl ?_
  refine wl_op (k := 0) (k' := 1) rfl rfl rfl (wo_run rfl rfl (run_move rfl rfl) ?_)
  refine wl_op (k := 1) (k' := 2) rfl rfl rfl (wo_run rfl rfl (run_not rfl rfl) ?_)
  refine wl_end rfl ?_
  refine nm_sub [(2, _), (3, _), (5, _), (7, _), (29, _)] ⟨rfl, rfl, rfl, rfl, rfl, trivial⟩ ?_
  refine nm_thn ?_
  refine ws_condN ReadB_n17 ReadB_n18 rfl rfl rfl rfl (fun hb29 => ?_) (fun hb29 => ?_)
  ·simp only [Bool.and_eq_true, Bool.or_eq_true, Bool.and_eq_false_iff, Bool.or_eq_false_iff, decide_eq_true_eq, decide_eq_false_iff_not, Bool.not_eq_true', Bool.not_eq_false'] at hb29
   refine ws_seqN ReadB_n19 ReadB_n20 rfl rfl rfl ?_
   refine ws_region rfl ?_
   refine wl_op (k := 0) (k' := 1) rfl rfl rfl (wo_run rfl rfl (run_build (l := [_, _]) rfl rfl st30 rfl rfl) ?_)
   refine wl_op (k := 1) (k' := 2) rfl rfl rfl (wo_storeB (i := 5) (us := [_, _]) (l' := [_, _]) (H' := [_, _, _, _, _, _]) rfl rfl S4 rfl rfl rfl rfl sz30 rfl rfl rfl rfl ?_)
   intro w5 S5; clear S4
   refine wl_op (k := 2) (k' := 3) rfl rfl rfl (wo_storeB (i := 4) (us := [_]) (l' := [_]) (H' := [_, _, _, _, _, _]) rfl rfl S5 rfl rfl rfl rfl sz23 rfl rfl rfl rfl ?_)
   intro w6 S6; clear S5
   refine wl_end rfl ?_
   refine nm_sub [(2, _), (3, _)] ⟨rfl, rfl, trivial⟩ ?_
   refine nm_thn ?_
   exact ws_retQ rfl (fun ax_ hax_ => hQ _ _ ⟨_, _, hle1, S6.pick [1, 4, 5] [_, _, _] (by decide) ⟨rfl, rfl, rfl, trivial⟩, rfl, hcd.symm.trans (cd_N hk (by assumption) (by simpa using hb29))⟩)
  ·simp only [Bool.and_eq_true, Bool.or_eq_true, Bool.and_eq_false_iff, Bool.or_eq_false_iff, decide_eq_true_eq, decide_eq_false_iff_not, Bool.not_eq_true', Bool.not_eq_false'] at hb29
   refine ws_skip rfl ?_
   refine nm_sub [(2, _), (3, _), (5, _), (7, _)] ⟨rfl, rfl, rfl, rfl, trivial⟩ ?_
   refine nm_thn ?_
   refine ws_region rfl ?_
   refine wl_op (k := 0) (k' := 1) rfl rfl rfl (wo_run rfl rfl (run_fieldAddr rfl rfl Tryd.underlying30 rfl (ce28) (nf28)) ?_)
   refine wl_op (k := 1) (k' := 2) rfl rfl rfl (wo_run rfl rfl (run_load1 rfl rfl Tryd.underlying28 rfl (S4.boxc (i := 3) rfl rfl)) ?_)
   refine wl_op (k := 2) (k' := 3) rfl rfl rfl (wo_run rfl rfl (run_loadN (us := [_, _, _, _, _]) rfl rfl Tryd.underlying49 rfl sz49 (S4.boxcs (i := 0) rfl ⟨rfl, rfl, rfl, rfl, rfl, trivial⟩)) ?_)
   refine wl_op (k := 3) (k' := 4) rfl rfl rfl (wo_buildSlice1 (C := cdCr) (l := [_, _, _, _, _]) rfl rfl rfl rfl sl28 rfl rfl rfl rfl S4 ?_)
   intro gb2 w7 S7; clear S4
   refine wl_op (k := 4) (k' := 5) rfl rfl rfl (wo_append1 (C := cdCr) (i := 3) (q := 0) (⟨(crE (crossP (ga (fldA [] s) k))).a, (crE (crossP (ga (fldA [] s) k))).b, (crE (crossP (ga (fldA [] s) k))).c, (crE (crossP (ga (fldA [] s) k))).d, (crE (crossP (ga (fldA [] s) k))).plus⟩ : Cr) rfl rfl rfl rfl rfl rfl rfl rfl sl28 S7 rfl rfl rfl (by show (_ + 1) * 40 ≤ _; first | omega | (simp only [lens]; omega)) ?_)
   intro vro1 w8 S8; clear S7
   have S9 := S8.pick [1, 2, 3, 4, 5, 6] [_, _, _, _, _, _] (by decide) ⟨rfl, rfl, rfl, rfl, rfl, rfl, trivial⟩; clear S8
   refine wl_op (k := 5) (k' := 6) rfl rfl rfl (wo_run rfl rfl (run_fieldAddr rfl rfl Tryd.underlying30 rfl (ce28) (nf28)) ?_)
   refine wl_op (k := 6) (k' := 7) rfl rfl rfl (wo_storeB (i := 3) (us := [_]) (l' := [_, _]) (H' := [_, _, _, _, _, _]) rfl rfl S9 rfl rfl rfl (S9.cells1 (i := 2) rfl) sz28 rfl (ones_cons (S9.one (i := 2) rfl) rfl) rfl rfl ?_)
   intro w9 S10; clear S9
   refine wl_end rfl ?_
   refine nm_blk ?_
   refine nm_lp ?_
   intro ax_ hax_
   exact ⟨_, _, hle1, S10.pick [1, 2, 3, 4, 5] [_, _, _, _, _] (by decide) ⟨rfl, rfl, rfl, rfl, rfl, trivial⟩, _, _, _, rfl, (cd_X hk (by assumption) (by simpa using hb29)).symm.trans hcd, by first | omega | (rw [List.length_append]; simp only [List.length_cons, List.length_nil]; omega), by omega, by omega⟩
end InF
end Go.Proofs.YtklcecpjgingpaaDoor
namespace Go.Proofs.YtklcecpjgingpaaDoor
open Go.ChangeShapes Go.WideShapes Go.ChangeAt Go.RowKit
namespace InD
noncomputable def ReadT_n1 : Code := Read_tl
noncomputable def ReadT_n2 : Code := cL ReadT_n1
noncomputable def ReadT_n3 : Code := cR ReadT_n1
noncomputable def ReadT_n4 : Code := cL ReadT_n2
noncomputable def ReadT_n5 : Code := cR ReadT_n2
noncomputable def ReadT_n6 : Code := cL ReadT_n5
noncomputable def ReadT_n7 : Code := cR ReadT_n5
noncomputable def ReadT_n8 : Code := cL ReadT_n6
noncomputable def ReadT_n9 : Code := cR ReadT_n6
noncomputable def ReadT_n10 : Code := cL ReadT_n3
noncomputable def ReadT_n11 : Code := cR ReadT_n3
set_option maxHeartbeats 1000000 in
set_option maxRecDepth 10000 in
theorem Read_tail {w : World} {M : Hp} {X : Fr} {s : List UInt8} (hs : s.length ≤ 2000) {gq2 gq3 gq5 l9 D9 : Nat} {rc9 : Loop} {R : Ending → World → Prop} {C : InF.Ctx} {H : List Rs} {a : Act} (hC : C.Q = bodyPostM Fence.wide 0 Tryd.prog Tryd.f8 R) (hR : ∀ u N w2, M.le N → SH w2 N X [] → DgT9 (readC s) u N → R (.returned u) w2) (S : SH w M X (Rs.lr l9 D9 rc9 :: H)) (ha : Env 42 [(2, .pointer (some ⟨gq2, 0, none⟩)), (3, .pointer (some ⟨gq3, 0, none⟩)), (5, .pointer (some ⟨gq5, 0, none⟩))] a) (hI : ReadI s gq2 gq3 gq5 (fldA [] s).length M H) :
  Read_tl.wpIn C.F 0 Tryd.prog (InF.post Tryd.prog C []) { a with defers := [{ target := .collected D9, args := #[] }] } w := by
 obtain ⟨vro, cr, lp, rfl, hcd, hcl, hlp0, hlp1⟩ := hI
 have hfm := fldA_many s []
 rw [if_pos rfl] at hfm
 change SH w M X [Rs.lr l9 D9 rc9, Rs.row cdCr vro cr, _, _, _] at S
 refine ws_in (ha.marked _) (c := Read_tl) rfl ?_
 refine ws_seqN ReadT_n2 ReadT_n3 rfl rfl rfl ?_
 refine ws_seqN ReadT_n4 ReadT_n5 rfl rfl rfl ?_
 refine ws_region rfl ?_
 refine wl_op (k := 0) (k' := 1) rfl rfl rfl (wo_run rfl rfl (run_loadN (us := [_, _]) rfl rfl Tryd.underlying30 rfl sz30 (S.boxcs (i := 2) rfl ⟨rfl, rfl, trivial⟩)) ?_)
 obtain ⟨A1, c1, e1, hr1⟩ := S.lendRd (i := 1) rfl (by show _ * 40 ≤ _; first | omega | (simp only [lens]; omega))
 have hcall1 := CMay_t (⟨cr, lp⟩ : Dg) hr1 S.lend
 refine wl_op (k := 1) (k' := 2) rfl rfl rfl (wo_ct rfl rfl rfl rfl rfl rfl rfl cf22 S (Ct.cast (by simp only [e1]) (hcall1)) ?_)
 intro vw1 w1 M1 hle1 S1 hRw1; clear S
 obtain rfl := hRw1
 refine wl_op (k := 2) (k' := 3) rfl rfl rfl (wo_run rfl rfl (run_not rfl rfl) ?_)
 refine wl_end rfl ?_
 refine nm_sub [(2, _), (3, _), (5, _), (39, _)] ⟨rfl, rfl, rfl, rfl, trivial⟩ ?_
 refine nm_thn ?_
 refine ws_condN ReadT_n6 ReadT_n7 rfl rfl rfl rfl (fun hb39 => ?_) (fun hb39 => ?_)
 ·simp only [Bool.and_eq_true, Bool.or_eq_true, Bool.and_eq_false_iff, Bool.or_eq_false_iff, decide_eq_true_eq, decide_eq_false_iff_not, Bool.not_eq_true', Bool.not_eq_false'] at hb39
  refine ws_seqN ReadT_n8 ReadT_n9 rfl rfl rfl ?_
  refine ws_region rfl ?_
  refine wl_op (k := 0) (k' := 1) rfl rfl rfl (wo_run rfl rfl (run_build (l := [_, _]) rfl rfl st30 rfl rfl) ?_)
  refine wl_op (k := 1) (k' := 2) rfl rfl rfl (wo_storeB (i := 4) (us := [_, _]) (l' := [_, _]) (H' := [_, _, _, _, _]) rfl rfl S1 rfl rfl rfl rfl sz30 rfl rfl rfl rfl ?_)
  intro w2 S2; clear S1
  refine wl_op (k := 2) (k' := 3) rfl rfl rfl (wo_storeB (i := 3) (us := [_]) (l' := [_]) (H' := [_, _, _, _, _]) rfl rfl S2 rfl rfl rfl rfl sz23 rfl rfl rfl rfl ?_)
  intro w3 S3; clear S2
  refine wl_end rfl ?_
  refine nm_sub [(2, _), (3, _)] ⟨rfl, rfl, trivial⟩ ?_
  refine nm_thn ?_
  have S4 := S3.pick [0, 1, 2, 3, 4] [_, _, _, _, _] (by decide) ⟨rfl, rfl, rfl, rfl, rfl, trivial⟩
  clear S3
  refine ws_take hC rfl S4 (fun w4 S5 => ?_); clear S4
  refine ws_ret hC [_, _] rfl rfl ⟨⟨_, rfl, loadVarN (us := [_, _]) Tryd.underlying30 rfl sz30 (S5.boxcs (i := 3) rfl ⟨rfl, rfl, trivial⟩)⟩, ⟨_, rfl, loadVar1 Tryd.underlying23 rfl (S5.boxc (i := 2) rfl rfl)⟩, trivial⟩ ?_
  refine hR _ _ _ (hle1) (S5.pick [] [] (by decide) trivial) ?_
  refine DgT9.of (p := (⟨[], 0⟩, 7)) ⟨_, _, rfl, RdA.nil_⟩ ?_
  unfold readC
  rw [if_neg (by omega), ← hcd, List.drop_length]
  unfold cdP endC
  dsimp only
  rw [if_neg (by simp_all)]
 ·simp only [Bool.and_eq_true, Bool.or_eq_true, Bool.and_eq_false_iff, Bool.or_eq_false_iff, decide_eq_true_eq, decide_eq_false_iff_not, Bool.not_eq_true', Bool.not_eq_false'] at hb39
  refine ws_skip rfl ?_
  refine nm_sub [(2, _), (3, _), (5, _)] ⟨rfl, rfl, rfl, trivial⟩ ?_
  refine nm_thn ?_
  refine ws_seqN ReadT_n10 ReadT_n11 rfl rfl rfl ?_
  refine ws_region rfl ?_
  refine wl_op (k := 0) (k' := 1) rfl rfl rfl (wo_run rfl rfl (run_loadN (us := [_, _]) rfl rfl Tryd.underlying30 rfl sz30 (S1.boxcs (i := 2) rfl ⟨rfl, rfl, trivial⟩)) ?_)
  refine wl_op (k := 1) (k' := 2) rfl rfl rfl (wo_storeB (i := 4) (us := [_, _]) (l' := [_, _]) (H' := [_, _, _, _, _]) rfl rfl S1 rfl rfl rfl rfl sz30 rfl (ones_cons (S1.one (i := 1) rfl) (ones_cons rfl rfl)) rfl rfl ?_)
  intro w5 S6; clear S1
  refine wl_op (k := 2) (k' := 3) rfl rfl rfl (wo_storeB (i := 3) (us := [_]) (l' := [_]) (H' := [_, _, _, _, _]) rfl rfl S6 rfl rfl rfl rfl sz23 rfl rfl rfl rfl ?_)
  intro w6 S7; clear S6
  refine wl_end rfl ?_
  refine nm_sub [(2, _), (3, _)] ⟨rfl, rfl, trivial⟩ ?_
  refine nm_thn ?_
  obtain ⟨M2, hle2, S8, ⟨A2, c2, e2, hr2⟩⟩ := S7.pubrow (i := 1) (H' := [_, _, _, _, _]) rfl rfl (by show _ * 40 ≤ _; first | omega | (simp only [lens]; omega))
  clear S7; subst e2
  have S9 := S8.pick [0, 1, 2, 3, 4] [_, _, _, _, _] (by decide) ⟨rfl, rfl, rfl, rfl, rfl, trivial⟩
  clear S8
  refine ws_take hC rfl S9 (fun w7 S10 => ?_); clear S9
  refine ws_ret hC [_, _] rfl rfl ⟨⟨_, rfl, loadVarN (us := [_, _]) Tryd.underlying30 rfl sz30 (S10.boxcs (i := 3) rfl ⟨rfl, rfl, trivial⟩)⟩, ⟨_, rfl, loadVar1 Tryd.underlying23 rfl (S10.boxc (i := 2) rfl rfl)⟩, trivial⟩ ?_
  refine hR _ _ _ (hle1.trans hle2) (S10.pick [] [] (by decide) trivial) ?_
  refine DgT9.of (p := (⟨cr, lp⟩, 0)) ⟨_, _, rfl, hr2⟩ ?_
  unfold readC
  rw [if_neg (by omega), ← hcd, List.drop_length]
  unfold cdP endC
  dsimp only
  rw [if_pos (by simp_all)]
end InD
namespace InF.M
noncomputable def ReadF_n0 : Code := Tryd.f8.body.getD .skip
noncomputable def ReadF_n1 : Code := cL ReadF_n0
noncomputable def ReadF_n2 : Code := cR ReadF_n0
noncomputable def ReadF_n3 : Code := cL ReadF_n2
noncomputable def ReadF_n4 : Code := cR ReadF_n2
noncomputable def ReadF_n5 : Code := cL ReadF_n3
noncomputable def ReadF_n6 : Code := cR ReadF_n3
noncomputable def ReadF_n7 : Code := cL ReadF_n6
noncomputable def ReadF_n8 : Code := cR ReadF_n6
noncomputable def ReadF_n9 : Code := cL ReadF_n7
noncomputable def ReadF_n10 : Code := cR ReadF_n7
noncomputable def ReadF_n11 : Code := cL ReadF_n4
noncomputable def ReadF_n12 : Code := cR ReadF_n4
noncomputable def ReadF_n13 : Code := cL ReadF_n12
noncomputable def ReadF_n14 : Code := cR ReadF_n12
noncomputable def ReadF_n15 : Code := cL ReadF_n14
noncomputable def ReadF_n16 : Code := cR ReadF_n14
noncomputable def ReadF_n17 : Code := cL ReadF_n15
noncomputable def ReadF_n18 : Code := cR ReadF_n15
noncomputable def ReadF_n19 : Code := cL ReadF_n18
set_option maxHeartbeats 1000000 in
set_option maxRecDepth 10000 in
theorem Read_t {w : World} {M : Hp} {X : Fr} (s : List UInt8) (hlb : LibOk (M.un X.h)) (hu : U8T (M.un X.h)) (S : SH w M X []) : Ct Tryd.prog 8 [.string (sB s)] w M X (DgT9 (readC s)) := by
 unfold Ct
 refine calls_marks (b := ReadF_n0) Tryd.func8 rfl Tryd.ntmps8 rfl (fun C hCr hC => ?_)
 refine ws_sub [(0, _)] ⟨rfl, trivial⟩ ?_
 refine ws_seqN ReadF_n1 ReadF_n2 rfl rfl rfl ?_
 refine ws_region rfl ?_
 refine wl_op (k := 0) (k' := 1) rfl rfl rfl (wo_alloc (l := [_, _]) rfl rfl rfl zr30 rfl S ?_)
 intro gb1 w1 S1; clear S
 refine wl_op (k := 1) (k' := 2) rfl rfl rfl (wo_alloc (l := [_]) rfl rfl rfl zr23 rfl S1 ?_)
 intro gb2 w2 S2; clear S1
 refine wl_end rfl ?_
 refine nm_thn ?_
 refine ws_seqN ReadF_n3 ReadF_n4 rfl rfl rfl ?_
 refine ws_seqN ReadF_n5 ReadF_n6 rfl rfl rfl ?_
 refine ws_region rfl ?_
 refine wl_op (k := 0) (k' := 1) rfl rfl rfl (wo_run rfl rfl (run_move rfl rfl) ?_)
 refine wl_op (k := 1) (k' := 2) rfl rfl rfl (wo_run rfl rfl (run_lenS rfl rfl rfl rfl rfl rfl Tryd.underlying9) ?_)
 refine wl_op (k := 2) (k' := 3) rfl rfl rfl (wo_run rfl rfl (run_gtr rfl rfl rfl) ?_)
 refine wl_end rfl ?_
 refine nm_sub [(0, _), (2, _), (3, _), (11, _)] ⟨rfl, rfl, rfl, rfl, trivial⟩ ?_
 refine nm_thn ?_
 refine ws_condN ReadF_n7 ReadF_n8 rfl rfl rfl rfl (fun hb11 => ?_) (fun hb11 => ?_)
 ·replace hb11 := of_decide_eq_true hb11
  refine ws_seqN ReadF_n9 ReadF_n10 rfl rfl rfl ?_
  refine ws_region rfl ?_
  refine wl_op (k := 0) (k' := 1) rfl rfl rfl (wo_run rfl rfl (run_build (l := [_, _]) rfl rfl st30 rfl rfl) ?_)
  refine wl_op (k := 1) (k' := 2) rfl rfl rfl (wo_storeB (i := 1) (us := [_, _]) (l' := [_, _]) (H' := [_, _]) rfl rfl S2 rfl rfl rfl rfl sz30 rfl rfl rfl rfl ?_)
  intro w3 S3; clear S2
  refine wl_op (k := 2) (k' := 3) rfl rfl rfl (wo_storeB (i := 0) (us := [_]) (l' := [_]) (H' := [_, _]) rfl rfl S3 rfl rfl rfl rfl sz23 rfl rfl rfl rfl ?_)
  intro w4 S4; clear S3
  refine wl_end rfl ?_
  refine nm_sub [(2, _), (3, _)] ⟨rfl, rfl, trivial⟩ ?_
  refine nm_thn ?_
  refine ws_ret hC [_, _] rfl rfl ⟨⟨_, rfl, loadVarN (us := [_, _]) Tryd.underlying30 rfl sz30 (S4.boxcs (i := 1) rfl ⟨rfl, rfl, trivial⟩)⟩, ⟨_, rfl, loadVar1 Tryd.underlying23 rfl (S4.boxc (i := 0) rfl rfl)⟩, trivial⟩ ?_
  refine ⟨_, rfl, _, Hp.le_refl _, S4.pick [] [] (by decide) trivial, ?_⟩
  refine DgT9.of (p := (⟨[], 0⟩, 2)) ⟨_, _, rfl, RdA.nil_⟩ ?_
  unfold readC
  rw [if_pos (by omega)]
 ·replace hb11 := of_decide_eq_false hb11
  refine ws_skip rfl ?_
  refine nm_sub [(0, _), (2, _), (3, _)] ⟨rfl, rfl, rfl, trivial⟩ ?_
  refine nm_thn ?_
  refine ws_seqN ReadF_n11 ReadF_n12 rfl rfl rfl ?_
  refine ws_region rfl ?_
  refine wl_op (k := 0) (k' := 1) rfl rfl rfl (wo_run rfl rfl (run_assign rfl rfl) ?_)
  refine wl_end rfl ?_
  refine nm_thn ?_
  refine ws_seqN ReadF_n13 ReadF_n14 rfl rfl rfl ?_
  refine ws_region rfl ?_
  refine wl_op (k := 0) (k' := 1) rfl rfl rfl (wo_alloc (l := [_, _]) rfl rfl rfl zr30 rfl S2 ?_)
  intro gb3 w5 S5; clear S2
  refine wl_end rfl ?_
  refine nm_thn ?_
  refine ws_seqN ReadF_n15 ReadF_n16 rfl rfl rfl ?_
  refine ws_seqN ReadF_n17 ReadF_n18 rfl rfl rfl ?_
  refine ws_region rfl ?_
  refine wl_op (k := 0) (k' := 1) rfl rfl rfl (wo_run rfl rfl (run_move rfl rfl) ?_)
  refine wl_op (k := 1) (k' := 2) rfl rfl rfl (wo_run rfl rfl (run_move rfl rfl) ?_)
  refine wl_op (k := 2) (k' := 3) rfl rfl rfl (wo_ct rfl rfl rfl rfl rfl rfl rfl cf20 S5 (FldSeq_t s S5.lend) ?_)
  intro vw6 w6 M1 hle1 S6 hRw6; clear S5
  replace hlb := hlb.mono (Hp.un_mono hle1 S6.mx)
  replace hu := hu.mono (Hp.un_mono hle1 S6.mx)
  obtain ⟨bs1, bf1, rfl, hbs1, hbf1⟩ := hRw6
  refine wl_end rfl ?_
  refine nm_sub [(2, _), (3, _), (5, _), (15, _)] ⟨rfl, rfl, rfl, rfl, trivial⟩ ?_
  refine nm_thn ?_
  refine ws_blockN ReadF_n19 0 rfl rfl rfl ?_
  have S9 := (S6.nilrow cdCr).pick [0, 1, 2, 3] [_, _, _, _] (by decide) ⟨rfl, rfl, rfl, rfl, trivial⟩
  refine ws_rangeFuncE (p := 16) (f := 35) (lb := [_, _]) (asg := rqA Read_rf) (bd := rqB Read_rf) (enc := fun k => .string (sB (ga (fldA [] s) k))) (N := (fldA [] s).length) hCr rfl rfl rfl cf35 S9 (ReadI s gb1 gb2 gb3) (fun _ => ReadIx s gb1 gb2) (ReadI1 s gb1 gb2 gb3) ?_ (FldSeq1_iter s (by omega) hbs1 hbf1 hu) ?_ ?_ ?_ ?_
  ·exact ⟨.slice none 0 0, [], 0, rfl, rfl, Nat.le_refl _, Int.le_refl _, Int.le_refl _⟩
  ·intro k M' H' w' C' R0 hk hle S' hI
   exact Read_assign ⟨rfl, rfl, rfl, rfl, trivial⟩ S' hI
  ·intro k M' H' w' C' R0 a hk hle S' hI1 hQ
   exact Read_body (by omega) (hlb.mono (Hp.un_mono hle S'.mx)) hk S' hI1 hQ
  ·intro a M' H' w' D l rc ha hle S' hI
   refine InD.Read_tail (s := s) (by omega) hC ?_ S' (ha.sub ⟨rfl, rfl, rfl, trivial⟩) hI
   intro u N w2 hN S2 hd
   exact ⟨u, rfl, N, (hle1).trans (hle.trans hN), S2, hd⟩
  ·intro k a M' H' w' D l rc hk ha hle S' hI
   obtain ⟨rfl, hno⟩ := hI
   refine leave_d hC ha S' (fun w2 S2 => ?_)
   refine rt_of [.agg [.slice none 0 0, .int .i64 0].toArray, .int .i64 1] rfl ⟨⟨_, rfl, loadVarN (us := [_, _]) Tryd.underlying30 rfl sz30 (S2.boxcs (i := 1) rfl ⟨rfl, rfl, trivial⟩)⟩, ⟨_, rfl, loadVar1 Tryd.underlying23 rfl (S2.boxc (i := 0) rfl rfl)⟩, trivial⟩ ?_
   refine ⟨_, rfl, _, (hle1).trans hle, S2.pick [] [] (by decide) trivial, ?_⟩
   refine DgT9.of (p := (⟨[], 0⟩, 1)) ⟨_, _, rfl, RdA.nil_⟩ ?_
   unfold readC
   rw [if_neg (by omega), hno]
   rfl
end InF.M
end Go.Proofs.YtklcecpjgingpaaDoor
namespace Go.Proofs.YtklcecpjgingpaaDoor
open Go.ChangeShapes Go.WideShapes Go.ChangeAt Go.RowKit
noncomputable def SameDiagram_n0 : Code := Tryd.f10.body.getD .skip
noncomputable def SameDiagram_n1 : Code := cL SameDiagram_n0
noncomputable def SameDiagram_n2 : Code := cR SameDiagram_n0
noncomputable def SameDiagram_n3 : Code := cL SameDiagram_n2
noncomputable def SameDiagram_n4 : Code := cR SameDiagram_n2
noncomputable def SameDiagram_n5 : Code := cL SameDiagram_n3
noncomputable def SameDiagram_n6 : Code := cR SameDiagram_n3
noncomputable def SameDiagram_n7 : Code := cL SameDiagram_n6
noncomputable def SameDiagram_n8 : Code := cR SameDiagram_n6
noncomputable def SameDiagram_n9 : Code := cL SameDiagram_n4
noncomputable def SameDiagram_n10 : Code := cR SameDiagram_n4
noncomputable def SameDiagram_n11 : Code := cL SameDiagram_n9
noncomputable def SameDiagram_n12 : Code := cR SameDiagram_n9
noncomputable def SameDiagram_n13 : Code := cL SameDiagram_n12
noncomputable def SameDiagram_n14 : Code := cL SameDiagram_n13
noncomputable def SameDiagram_n15 : Code := cL SameDiagram_n14
noncomputable def SameDiagram_n16 : Code := cR SameDiagram_n14
noncomputable def SameDiagram_n17 : Code := cL SameDiagram_n15
noncomputable def SameDiagram_n18 : Code := cR SameDiagram_n15
noncomputable def SameDiagram_n19 : Code := cL SameDiagram_n18
noncomputable def SameDiagram_n20 : Code := cR SameDiagram_n18
noncomputable def SameDiagram_n21 : Code := cL SameDiagram_n16
noncomputable def SameDiagram_n22 : Code := cR SameDiagram_n16
noncomputable def SameDiagram_n23 : Code := cL SameDiagram_n21
noncomputable def SameDiagram_n24 : Code := cL SameDiagram_n23
noncomputable def SameDiagram_n25 : Code := cR SameDiagram_n23
noncomputable def SameDiagram_n26 : Code := cL SameDiagram_n25
noncomputable def SameDiagram_n27 : Code := cR SameDiagram_n25
noncomputable def SameDiagram_n28 : Code := cL SameDiagram_n10
noncomputable def SameDiagram_n29 : Code := cR SameDiagram_n10
set_option maxRecDepth 10000 in
theorem SameDiagram_q {w : World} {M : Hp} {X : Fr} (a : Dg) {acrsA : Option Addr} {acrsc : Nat} (b : Dg) {bcrsA : Option Addr} {bcrsc : Nat} (hacrs : RdA cdCr (M.un X.h) acrsA acrsc a.crs) (hbcrs : RdA cdCr (M.un X.h) bcrsA bcrsc b.crs) (he : a = b) (S : SH w M X []) : Cq Tryd.prog 10 [.agg [.slice acrsA a.crs.length acrsc, .int .i64 a.loops].toArray, .agg [.slice bcrsA b.crs.length bcrsc, .int .i64 b.loops].toArray] w M X (fun u => u = .bool true) := by
 unfold Cq
 have rmhacrs : a.crs.length * 40 ≤ 140737488355328 := hacrs.room
 have rmhbcrs : b.crs.length * 40 ≤ 140737488355328 := hbcrs.room
 have hle : a.crs.length = b.crs.length := by rw [he]
 have hlo : a.loops = b.loops := by rw [he]
 refine calls_in (b := SameDiagram_n0) Tryd.func10 rfl Tryd.ntmps10 rfl (fun C hC => ?_)
 refine ws_sub [(0, _), (1, _)] ⟨rfl, rfl, trivial⟩ ?_
 refine ws_seqN SameDiagram_n1 SameDiagram_n2 rfl rfl rfl ?_
 refine ws_region rfl ?_
 refine wlo 0 1 rfl rfl rfl (wo_box (l := [_, _]) rfl rfl rfl rfl rfl S ?_)
 intro gb1 w1 S1; clear S
 refine wlo 1 2 rfl rfl rfl (wo_box (l := [_, _]) rfl rfl rfl rfl rfl S1 ?_)
 intro gb2 w2 S2; clear S1
 refine wla 2 3 rfl rfl rfl rfl rfl rfl rfl ?_
 refine wl_end rfl ?_
 refine nm_sub [(2, _), (3, _)] ⟨rfl, rfl, trivial⟩ ?_
 refine nm_thn ?_
 refine ws_seqN SameDiagram_n3 SameDiagram_n4 rfl rfl rfl ?_
 refine ws_seqN SameDiagram_n5 SameDiagram_n6 rfl rfl rfl ?_
 refine ws_region rfl ?_
 refine wlo 0 1 rfl rfl rfl (wo_run rfl rfl (run_fieldAddr rfl rfl Tryd.underlying30 rfl (ce3) (nf3)) ?_)
 refine wlo 1 2 rfl rfl rfl (wo_run rfl rfl (run_load1 rfl rfl Tryd.underlying3 rfl (S2.boxc (i := 1) rfl rfl)) ?_)
 refine wlo 2 3 rfl rfl rfl (wo_run rfl rfl (run_fieldAddr rfl rfl Tryd.underlying30 rfl (ce3) (nf3)) ?_)
 refine wlo 3 4 rfl rfl rfl (wo_run rfl rfl (run_load1 rfl rfl Tryd.underlying3 rfl (S2.boxc (i := 0) rfl rfl)) ?_)
 refine wlo 4 5 rfl rfl rfl (wo_run rfl rfl (run_neq rfl rfl rfl) ?_)
 refine wlm 5 6 rfl rfl rfl rfl rfl rfl rfl ?_
 refine wl_split (t := 11) rfl (fun hg11 => ?_) (fun hg11 => ?_)
 ·replace hg11 := of_decide_eq_true hg11
  exfalso; omega
 ·replace hg11 := of_decide_eq_false hg11
  refine wl_opG (k := 6) (k' := 7) rfl rfl ⟨_, _, _, rfl, rfl, rfl, rfl⟩ rfl (wo_run rfl rfl (run_fieldAddr rfl rfl Tryd.underlying30 rfl (ce28) (nf28)) ?_)
  refine wl_opG (k := 7) (k' := 8) rfl rfl ⟨_, _, _, rfl, rfl, rfl, rfl⟩ rfl (wo_run rfl rfl (run_load1 rfl rfl Tryd.underlying28 rfl (S2.boxc (i := 1) rfl rfl)) ?_)
  refine wl_opG (k := 8) (k' := 9) rfl rfl ⟨_, _, _, rfl, rfl, rfl, rfl⟩ rfl (wo_run rfl rfl (run_len rfl rfl rfl rfl rfl rfl Tryd.underlying28) ?_)
  refine wl_opG (k := 9) (k' := 10) rfl rfl ⟨_, _, _, rfl, rfl, rfl, rfl⟩ rfl (wo_run rfl rfl (run_fieldAddr rfl rfl Tryd.underlying30 rfl (ce28) (nf28)) ?_)
  refine wl_opG (k := 10) (k' := 11) rfl rfl ⟨_, _, _, rfl, rfl, rfl, rfl⟩ rfl (wo_run rfl rfl (run_load1 rfl rfl Tryd.underlying28 rfl (S2.boxc (i := 0) rfl rfl)) ?_)
  refine wl_opG (k := 11) (k' := 12) rfl rfl ⟨_, _, _, rfl, rfl, rfl, rfl⟩ rfl (wo_run rfl rfl (run_len rfl rfl rfl rfl rfl rfl Tryd.underlying28) ?_)
  refine wl_opG (k := 12) (k' := 13) rfl rfl ⟨_, _, _, rfl, rfl, rfl, rfl⟩ rfl (wo_run rfl rfl (run_neq rfl rfl rfl) ?_)
  refine wlo 13 14 rfl rfl rfl (wo_run rfl rfl (run_pickF rfl rfl rfl) ?_)
  refine wl_end rfl ?_
  refine nm_sub [(2, _), (3, _), (19, _)] ⟨rfl, rfl, rfl, trivial⟩ ?_
  refine nm_thn ?_
  refine ws_condN SameDiagram_n7 SameDiagram_n8 rfl rfl rfl rfl (fun hb19 => ?_) (fun hb19 => ?_)
  ·replace hb19 := of_decide_eq_true hb19
   exfalso; omega
  ·replace hb19 := of_decide_eq_false hb19
   refine ws_skip rfl ?_
   refine nm_sub [(2, _), (3, _)] ⟨rfl, rfl, trivial⟩ ?_
   refine nm_thn ?_
   refine ws_seqN SameDiagram_n9 SameDiagram_n10 rfl rfl rfl ?_
   refine ws_seqN SameDiagram_n11 SameDiagram_n12 rfl rfl rfl ?_
   refine ws_region rfl ?_
   refine wla 0 1 rfl rfl rfl rfl rfl rfl rfl ?_
   refine wl_end rfl ?_
   refine nm_thn ?_
   refine ws_blockN SameDiagram_n13 0 rfl rfl rfl ?_
   refine ws_loopE (fun mx_ ax_ wx_ => ∃ (k : Nat), mx_ = a.crs.length - k ∧ Env 38 [(2, .pointer (some ⟨gb1, 0, none⟩)), (3, .pointer (some ⟨gb2, 0, none⟩)), (5, .int .i64 (k : Int))] ax_ ∧ SH wx_ M X [Rs.box gb2 30 [.slice bcrsA b.crs.length bcrsc, .int .i64 b.loops], Rs.box gb1 30 [.slice acrsA a.crs.length acrsc, .int .i64 a.loops]] ∧ k ≤ a.crs.length) rfl ?_ ?_
   ·intro ax_ hax_
    refine ⟨_, ⟨0, rfl, hax_.sub ⟨rfl, rfl, rfl, trivial⟩, S2.pick [0, 1] [_, _] (by decide) ⟨rfl, rfl, trivial⟩, ?hq1f0⟩⟩
    case hq1f0 => omega
   ·rintro m1 a1 w3 ⟨k, rfl, he1, S3, hk⟩
    clear S2
    refine ws_in he1 (c := SameDiagram_n14) rfl ?_
    clear he1 a1
    refine ws_seqN SameDiagram_n15 SameDiagram_n16 rfl rfl rfl ?_
    refine ws_seqN SameDiagram_n17 SameDiagram_n18 rfl rfl rfl ?_
    refine ws_region rfl ?_
    refine wlm 0 1 rfl rfl rfl rfl rfl rfl rfl ?_
    refine wlo 1 2 rfl rfl rfl (wo_run rfl rfl (run_fieldAddr rfl rfl Tryd.underlying30 rfl (ce28) (nf28)) ?_)
    refine wlo 2 3 rfl rfl rfl (wo_run rfl rfl (run_load1 rfl rfl Tryd.underlying28 rfl (S3.boxc (i := 1) rfl rfl)) ?_)
    refine wlo 3 4 rfl rfl rfl (wo_run rfl rfl (run_len rfl rfl rfl rfl rfl rfl Tryd.underlying28) ?_)
    refine wlo 4 5 rfl rfl rfl (wo_run rfl rfl (run_lss rfl rfl rfl) ?_)
    refine wl_end rfl ?_
    refine nm_sub [(2, _), (3, _), (5, _), (24, _)] ⟨rfl, rfl, rfl, rfl, trivial⟩ ?_
    refine nm_thn ?_
    refine ws_condN SameDiagram_n19 SameDiagram_n20 rfl rfl rfl rfl (fun hb24 => ?_) (fun hb24 => ?_)
    ·replace hb24 := of_decide_eq_true hb24
     refine ws_skip rfl ?_
     refine nm_sub [(2, _), (3, _), (5, _)] ⟨rfl, rfl, rfl, trivial⟩ ?_
     refine nm_thn ?_
     refine ws_seqN SameDiagram_n21 SameDiagram_n22 rfl rfl rfl ?_
     refine ws_blockN SameDiagram_n23 1 rfl rfl rfl ?_
     refine ws_seqN SameDiagram_n24 SameDiagram_n25 rfl rfl rfl ?_
     refine ws_draw rfl (by kernel_rfl) S3 11 rfl ?_
     clear S3
     refine wa_takeP (i := 0) (d := 27) 10 rfl (by kernel_rfl) (by kernel_rfl) (by kernel_rfl) rfl rfl rfl (fun w4 => run_fieldAddr rfl rfl Tryd.underlying30 rfl (ce28) (nf28)) ?_
     refine wa_take (i := 1) (d := 28) 9 rfl (by kernel_rfl) (by kernel_rfl) (by kernel_rfl) rfl rfl rfl (fun M2 N2 w5 hle3 S5 => .inl (run_load1 rfl rfl Tryd.underlying28 rfl (S5.suf.boxc (i := 1) rfl rfl))) ?_
     refine wa_takeP (i := 2) (d := 29) 8 rfl (by kernel_rfl) (by kernel_rfl) (by kernel_rfl) rfl rfl rfl (fun w6 => run_move rfl rfl) ?_
     refine wa_take (i := 3) (d := 30) 7 rfl (by kernel_rfl) (by kernel_rfl) (by kernel_rfl) rfl rfl rfl (fun M4 N4 w7 hle5 S7 => .inl (run_indexM (C := cdCr) k rfl rfl rfl sl28 (by first | rfl | omega) (hacrs.mono (Hp.un_mono hle5 S7.mx)) (by first | omega | (simp only [lens]; omega)))) ?_
     refine wa_take (i := 4) (d := 31) 6 rfl (by kernel_rfl) (by kernel_rfl) (by kernel_rfl) rfl rfl rfl (fun M5 N5 w8 hle6 S8 => .inl (run_loadN (us := [_, _, _, _, _]) rfl rfl Tryd.underlying49 rfl sz49 ((hacrs.mono (Hp.un_mono hle6 S8.mx)).cellsAt S8.um (e := k) (by first | omega | (simp only [lens]; omega)) (j := 0) ⟨rfl, rfl, rfl, rfl, rfl, trivial⟩))) ?_
     refine wa_takeP (i := 5) (d := 32) 5 rfl (by kernel_rfl) (by kernel_rfl) (by kernel_rfl) rfl rfl rfl (fun w9 => run_fieldAddr rfl rfl Tryd.underlying30 rfl (ce28) (nf28)) ?_
     refine wa_take (i := 6) (d := 33) 4 rfl (by kernel_rfl) (by kernel_rfl) (by kernel_rfl) rfl rfl rfl (fun M7 N7 w10 hle8 S10 => .inl (run_load1 rfl rfl Tryd.underlying28 rfl (S10.suf.boxc (i := 0) rfl rfl))) ?_
     refine wa_takeP (i := 7) (d := 34) 3 rfl (by kernel_rfl) (by kernel_rfl) (by kernel_rfl) rfl rfl rfl (fun w11 => run_move rfl rfl) ?_
     refine wa_take (i := 8) (d := 35) 2 rfl (by kernel_rfl) (by kernel_rfl) (by kernel_rfl) rfl rfl rfl (fun M9 N9 w12 hle10 S12 => .inl (run_indexM (C := cdCr) k rfl rfl rfl sl28 (by first | rfl | omega) (hbcrs.mono (Hp.un_mono hle10 S12.mx)) (by first | omega | (simp only [lens]; omega)))) ?_
     refine wa_take (i := 9) (d := 36) 1 rfl (by kernel_rfl) (by kernel_rfl) (by kernel_rfl) rfl rfl rfl (fun M10 N10 w13 hle11 S13 => .inl (run_loadN (us := [_, _, _, _, _]) rfl rfl Tryd.underlying49 rfl sz49 ((hbcrs.mono (Hp.un_mono hle11 S13.mx)).cellsAt S13.um (e := k) (by first | omega | (simp only [lens]; omega)) (j := 0) ⟨rfl, rfl, rfl, rfl, rfl, trivial⟩))) ?_
     refine wa_takeP (i := 10) (d := 37) 0 rfl (by kernel_rfl) (by kernel_rfl) (by kernel_rfl) rfl rfl rfl (fun w14 => run_neSt (Q := ((ga a.crs k).a) = ((ga b.crs k).a) ∧ ((ga a.crs k).b) = ((ga b.crs k).b) ∧ ((ga a.crs k).c) = ((ga b.crs k).c) ∧ ((ga a.crs k).d) = ((ga b.crs k).d) ∧ ((ga a.crs k).plus) = ((ga b.crs k).plus)) rfl rfl rfl se49 ⟨_, _, _, _, rfl, rfl, ⟨_, _, _, _, rfl, rfl, ⟨_, _, _, _, rfl, rfl, ⟨_, _, _, _, rfl, rfl, ⟨_, _, rfl, rfl, rfl⟩, rfl⟩, rfl⟩, rfl⟩, rfl⟩) ?_
     refine wa_end (by kernel_rfl) (fun w15 S15 => ?_)
     refine nm_sub [(2, _), (3, _), (5, _), (37, _)] ⟨rfl, rfl, rfl, rfl, trivial⟩ ?_
     refine nm_thn ?_
     refine ws_condN SameDiagram_n26 SameDiagram_n27 rfl rfl rfl rfl (fun hb37 => ?_) (fun hb37 => ?_)
     ·replace hb37 := of_decide_eq_true hb37
      exfalso; exact hb37 (by rw [he]; simp)
     ·replace hb37 := of_decide_eq_false hb37
      refine ws_skip rfl ?_
      refine nm_blk ?_
      refine nm_sub [(2, _), (3, _), (5, _)] ⟨rfl, rfl, rfl, trivial⟩ ?_
      refine nm_thn ?_
      refine ws_region rfl ?_
      refine wlm 0 1 rfl rfl rfl rfl rfl rfl rfl ?_
      refine wlo 1 2 rfl rfl rfl (wo_run rfl rfl (run_add rfl rfl rfl (by first | omega | (simp only [lens]; omega))) ?_)
      refine wla 2 3 rfl rfl rfl rfl rfl rfl rfl ?_
      refine wl_end rfl ?_
      refine nm_lp ?_
      intro ax_ hax_
      refine ⟨_, ?hq2m, ⟨k + 1, rfl, hax_.sub ⟨rfl, rfl, rfl, trivial⟩, S15.pick [0, 1] [_, _] (by decide) ⟨rfl, rfl, trivial⟩, ?hq2f0⟩⟩
      case hq2f0 => omega
      case hq2m => omega
    ·replace hb24 := of_decide_eq_false hb24
     refine ws_exit rfl rfl ?_
     refine nm_sub [] trivial ?_
     refine nm_thn ?_
     refine ws_seqN SameDiagram_n28 SameDiagram_n29 rfl rfl rfl ?_
     refine ws_region rfl ?_
     refine wla 0 1 rfl rfl rfl rfl rfl rfl rfl ?_
     refine wl_end rfl ?_
     refine nm_thn ?_
     refine ws_ret hC [_] rfl rfl ⟨rfl, trivial⟩ ?_
     exact ⟨_, rfl, (S3.pick [] [] (by decide) trivial), rfl⟩
noncomputable def CodeReads_n0 : Code := Tryd.f4.body.getD .skip
noncomputable def CodeReads_n1 : Code := cL CodeReads_n0
noncomputable def CodeReads_n2 : Code := cR CodeReads_n0
noncomputable def CodeReads_n3 : Code := cL CodeReads_n2
noncomputable def CodeReads_n4 : Code := cR CodeReads_n2
noncomputable def CodeReads_n5 : Code := cL CodeReads_n4
noncomputable def CodeReads_n6 : Code := cR CodeReads_n4
noncomputable def CodeReads_n7 : Code := cL CodeReads_n6
noncomputable def CodeReads_n8 : Code := cR CodeReads_n6
set_option maxRecDepth 10000 in
theorem CodeReads_t {w : World} {M : Hp} {X : Fr} (s : List UInt8) (hlb : LibOk (M.un X.h)) (hu : U8T (M.un X.h)) (S : SH w M X []) : Ct Tryd.prog 4 [.string (sB s)] w M X (fun u _ => u = .bool true) := by
 unfold Ct
 refine calls_in (b := CodeReads_n0) Tryd.func4 rfl Tryd.ntmps4 rfl (fun C hC => ?_)
 refine ws_sub [(0, _)] ⟨rfl, trivial⟩ ?_
 refine ws_seqN CodeReads_n1 CodeReads_n2 rfl rfl rfl ?_
 refine ws_region rfl ?_
 refine wla 0 1 rfl rfl rfl rfl rfl rfl rfl ?_
 refine wl_end rfl ?_
 refine nm_sub [(0, _)] ⟨rfl, trivial⟩ ?_
 refine nm_thn ?_
 refine ws_seqN CodeReads_n3 CodeReads_n4 rfl rfl rfl ?_
 refine ws_region rfl ?_
 refine wlm 0 1 rfl rfl rfl rfl rfl rfl rfl ?_
 refine wlo 1 2 rfl rfl rfl (wo_ct rfl rfl rfl rfl rfl rfl rfl cf8 S (InF.M.Read_t s (hlb.mono S.un_XH) (hu.mono S.un_XH) S.lend) ?_)
 intro vw1 w1 M1 hle1 S1 hRw1; clear S
 replace hlb := hlb.mono (Hp.un_mono hle1 S1.mx)
 replace hu := hu.mono (Hp.un_mono hle1 S1.mx)
 rw [← refC_eq] at hRw1
 obtain ⟨A1, c1, rfl, hr1⟩ := hRw1
 refine wlm 2 3 rfl rfl rfl rfl rfl rfl rfl ?_
 refine wlo 3 4 rfl rfl rfl (wo_run rfl rfl (run_extract rfl rfl rfl) ?_)
 refine wlo 4 5 rfl rfl rfl (wo_run rfl rfl (run_extract rfl rfl rfl) ?_)
 refine wlo 5 6 rfl rfl rfl (wo_alloc (l := [_, _]) rfl rfl rfl zr30 rfl S1 ?_)
 intro gb1 w2 S2; clear S1
 refine wlo 6 7 rfl rfl rfl (wo_storeB (i := 0) (us := [_, _]) (l' := [_, _]) (H' := [_]) rfl rfl S2 rfl rfl rfl rfl sz30 rfl rfl rfl rfl ?_)
 intro w3 S3; clear S2
 refine wla 7 8 rfl rfl rfl rfl rfl rfl rfl ?_
 refine wl_end rfl ?_
 refine nm_sub [(0, _), (3, _), (4, _)] ⟨rfl, rfl, rfl, trivial⟩ ?_
 refine nm_thn ?_
 refine ws_seqN CodeReads_n5 CodeReads_n6 rfl rfl rfl ?_
 refine ws_region rfl ?_
 refine wlm 0 1 rfl rfl rfl rfl rfl rfl rfl ?_
 refine wlo 1 2 rfl rfl rfl (wo_ct rfl rfl rfl rfl rfl rfl rfl cf9 S3 (ReadDiagram_t s S3.lend) ?_)
 intro vw4 w4 M2 hle2 S4 hRw4; clear S3
 replace hlb := hlb.mono (Hp.un_mono hle2 S4.mx)
 replace hu := hu.mono (Hp.un_mono hle2 S4.mx)
 replace hr1 := hr1.mono hle2
 obtain ⟨A2, c2, rfl, hr2⟩ := hRw4
 refine wlm 2 3 rfl rfl rfl rfl rfl rfl rfl ?_
 refine wlo 3 4 rfl rfl rfl (wo_run rfl rfl (run_extract rfl rfl rfl) ?_)
 refine wlo 4 5 rfl rfl rfl (wo_run rfl rfl (run_extract rfl rfl rfl) ?_)
 refine wlo 5 6 rfl rfl rfl (wo_alloc (l := [_, _]) rfl rfl rfl zr30 rfl S4 ?_)
 intro gb2 w5 S5; clear S4
 refine wlo 6 7 rfl rfl rfl (wo_storeB (i := 0) (us := [_, _]) (l' := [_, _]) (H' := [_, _]) rfl rfl S5 rfl rfl rfl rfl sz30 rfl rfl rfl rfl ?_)
 intro w6 S6; clear S5
 refine wla 7 8 rfl rfl rfl rfl rfl rfl rfl ?_
 refine wl_end rfl ?_
 refine nm_sub [(3, _), (4, _), (5, _), (6, _)] ⟨rfl, rfl, rfl, rfl, trivial⟩ ?_
 refine nm_thn ?_
 refine ws_seqN CodeReads_n7 CodeReads_n8 rfl rfl rfl ?_
 refine ws_region rfl ?_
 refine wlm 0 1 rfl rfl rfl rfl rfl rfl rfl ?_
 refine wlm 1 2 rfl rfl rfl rfl rfl rfl rfl ?_
 refine wlo 2 3 rfl rfl rfl (wo_run rfl rfl (run_eql rfl rfl rfl) ?_)
 refine wlm 3 4 rfl rfl rfl rfl rfl rfl rfl ?_
 refine wl_split (t := 20) rfl (fun hg20 => ?_) (fun hg20 => ?_)
 ·replace hg20 := of_decide_eq_true hg20
  refine wl_opG (k := 4) (k' := 5) rfl rfl ⟨_, _, _, rfl, rfl, rfl, rfl⟩ rfl (wo_run rfl rfl (run_loadN (us := [_, _]) rfl rfl Tryd.underlying30 rfl sz30 (S6.boxcs (i := 1) rfl ⟨rfl, rfl, trivial⟩)) ?_)
  refine wl_opG (k := 5) (k' := 6) rfl rfl ⟨_, _, _, rfl, rfl, rfl, rfl⟩ rfl (wo_run rfl rfl (run_loadN (us := [_, _]) rfl rfl Tryd.underlying30 rfl sz30 (S6.boxcs (i := 0) rfl ⟨rfl, rfl, trivial⟩)) ?_)
  refine wl_opG (k := 6) (k' := 7) rfl rfl ⟨_, _, _, rfl, rfl, rfl, rfl⟩ rfl (wo_cq rfl rfl rfl rfl rfl rfl rfl cf10 S6 (SameDiagram_q ((refC s).1) ((refC s).1) (hr1.mono (Hp.le_un _ _)) (hr2.mono (Hp.le_un _ _)) (rfl) S6.lend) ?_)
  rintro _ w7 S7 rfl; clear S6
  refine wlo 7 8 rfl rfl rfl (wo_run rfl rfl (run_pickT rfl rfl rfl) ?_)
  refine wla 8 9 rfl rfl rfl rfl rfl rfl rfl ?_
  refine wl_end rfl ?_
  refine nm_sub [(2, _)] ⟨rfl, trivial⟩ ?_
  refine nm_thn ?_
  refine ws_ret hC [_] rfl rfl ⟨rfl, trivial⟩ ?_
  refine ⟨_, rfl, _, hle1.trans hle2, (S7.pick [] [] (by decide) trivial), ?_⟩
  show Value.bool _ = _
  refine congrArg Value.bool ?_
  first | rfl | (rw [decide_eq_true_iff]; omega) | (simp_all; done)
 ·replace hg20 := of_decide_eq_false hg20
  exfalso; first | omega | contradiction
end Go.Proofs.YtklcecpjgingpaaDoor
namespace Go.Proofs.YtklcecpjgingpaaDoor
open Go.ChangeShapes Go.WideShapes Go.ChangeAt Go.RowKit
theorem law_lift_laidW {H : Type} {enc : TypeId × Value → H} {C : Checked} {os : Os} {f : FuncId} {fn : Func} {s : ChangeSpec} {tb : TypeId} {Z : World → Prop} (hZ : ∀ w w' : World, w.heap = w'.heap → Z w → Z w')
    (own : ownKnob C.prog.godebug = none) (started : os.Started) (noInit : C.prog.inits.idxOf? f = none) (hfn : C.prog.funcs[f]? = some fn)
    (witness : ∃ (w : World) (tape : Tape) (i : Input), w.os = os ∧ (w.forCall tape i).Shaped C.prog ∧ i.vars = [] ∧ Input.okWide C.prog (w.forCall tape i) .any w.heap.size f i ∧
      ((s.pre enc C.prog fn [] false (w.forCall tape i).memory i.args ∧ Z (w.forCall tape i).memory) ∧ sizedMet enc C.prog fn (OpenSpec.ofChange s) false (w.forCall tape i).memory i.args) ∧ ({} : Assume).holds C.prog (lone (Frame.enter C.prog f i.args .normal) [] (w.forCall tape i)))
    (hvars : s.vars = []) (hl : laidOutB C.prog = true) (hps : (fn.params.toList.all fun t => C.prog.readableRec t && decide (t < C.prog.types.size)) = true)
    (hres : fn.resultTypes = #[tb]) (htb : C.prog.underlying tb = some .bool)
    (hspec : ∀ ds : List (DataW H), ds.length = fn.params.toList.length → s.fn H (ds ++ []) = { results := [.lit (.bool true)], args := ds })
    (hlaw : ∀ (W : World) (base : Nat) (args : Array Value) (ds : List (DataW H)) (p : List MemPlace),
      (∀ (j : Nat) t v, fn.params[j]? = some t → args[j]? = some v → Value.okWide C.prog W .any base t v) →
      DataW.TrodAll enc C.prog W 0 (fun _ => true) true fn.params.toList args.toList ds p → W.noneFrozen p → (∀ x ∈ p, x.block < W.heap.size) →
      (DataW.weightsEach C.prog fn.params.toList ds).all (· ≤ reachBytes) = true → Z W → W.ShapedOpen C.prog →
      Calls C.prog f args W fun e W' => e = .returned (.bool true) ∧ Below W.heap.size W W') :
    ReturnsInHanded {} C os f .any (fun w args => (s.pre enc C.prog fn [] false w args ∧ Z w) ∧ sizedMet enc C.prog fn (OpenSpec.ofChange s) false w args) (s.post enc C.prog fn false true false false) := by
  refine returnsInHanded_of_calls own started noInit witness ?_
  intro w tape i _ hshape _ hok hpre _
  have hval : ∀ (j : Nat) t v, fn.params[j]? = some t → i.args[j]? = some v → Value.okWide C.prog (w.forCall tape i) .any w.heap.size t v := by
    obtain ⟨_, _, _, fn', hfn', _, _, _, _, hv⟩ := hok
    obtain rfl : fn' = fn := Option.some.inj (hfn'.symm.trans hfn)
    exact hv
  obtain ⟨⟨⟨ds, gs, before, hw0, _⟩, hx⟩, hz⟩ := hpre
  have hsz : (DataW.weightsEach C.prog (fn.params.toList ++ s.plain.varTypes C.prog) (ds ++ gs)).all (· ≤ reachBytes) = true := hz.weights hw0
  have hzw : Z (w.forCall tape i) := hZ _ _ (by rfl) hx
  have hW := DataW.Whole.of_heap (w' := w.forCall tape i) (by rfl) hw0
  generalize w.forCall tape i = W at *
  have hW' := hW
  obtain ⟨p, q, hA, hV, rfl, hfz, _⟩ := hW
  rw [hvars] at hV
  have hgs : gs = [] ∧ q = [] := by cases gs with
    | nil => exact ⟨rfl, hV⟩
    | cons g gs => exact hV.elim
  obtain ⟨rfl, rfl⟩ := hgs
  have hvt : s.plain.varTypes C.prog = [] := by simp [DataSpec.varTypes, ChangeSpec.plain, hvars]
  rw [hvt, List.append_nil, List.append_nil] at hsz
  have hlt : ∀ x ∈ p, x.block < W.heap.size := fun x hx => hW'.lt x (by simp [hx])
  refine (hlaw W _ i.args ds p hval hA (fun b off hm => hfz b off (by simp [hm])) hlt hsz hzw hshape).mono ?_
  rintro e W' ⟨rfl, hb⟩
  refine ChangeSpec.post_blind ?_
  have hps' : ∀ t ∈ fn.params.toList, C.prog.readableRec t = true ∧ t < C.prog.types.size := by
    intro t ht
    have := List.all_eq_true.1 hps t ht
    simpa using this
  refine ⟨ds, [], _, [], p, [], hW', ?_, ?_, ?_, hb.frame _, fun h => by cases h⟩
  · rw [hspec ds (trodAll_length _ _ _ _ hA), hres]
    exact trodAll_mk1 (shut_bool htb true)
  · rw [hspec ds (trodAll_length _ _ _ _ hA)]
    exact trodAll_below hl hb _ _ _ _ hps' hA hlt
  · rw [hspec ds (trodAll_length _ _ _ _ hA), hvars]
    rfl
end Go.Proofs.YtklcecpjgingpaaDoor
namespace Go.Proofs.YtklcecpjgingpaaDoor
open Go.ChangeShapes Go.WideShapes Go.ChangeAt Go.RowKit
def laidR : List (String × DataW Unit) := [("math/bits.deBruijn32tab", Rows.laid_math_bits_deBruijn32tab), ("math/bits.deBruijn64tab", Rows.laid_math_bits_deBruijn64tab), ("internal/strconv.uint64pow10", Rows.laid_internal_strconv_uint64pow10), ("unicode/utf8.acceptRanges", Rows.laid_unicode_utf8_acceptRanges), ("strconv.ErrRange", Rows.laid_strconv_ErrRange), ("strconv.ErrSyntax", Rows.laid_strconv_ErrSyntax), ("unicode/utf8.first", Rows.laid_unicode_utf8_first)]
theorem gPow : Tryd.prog.globalNamed "internal/strconv.uint64pow10" = some 5 := by kernel_rfl
theorem gErrS : Tryd.prog.globalNamed "strconv.ErrSyntax" = some 3 := by kernel_rfl
theorem gErrR : Tryd.prog.globalNamed "strconv.ErrRange" = some 4 := by kernel_rfl
theorem pow_tab {H : Type} : (Rows.laid_internal_strconv_uint64pow10 : DataW H) = Lib.tabData .u64 Lib.pow10Tab := by rfl
theorem errRow (u : TypeId) (h : Tryd.prog.typeName? 3 u = some "*errors.errorString") : u = 134 := by
  have hs : "*" ++ "errors.errorString" = "*errors.errorString" := by decide
  exact typeName_ptr_named (nm := "errors.errorString") (by rw [hs]; kernel_rfl) (by kernel_rfl) (by decide) u (by rw [hs]; exact h)
theorem TbW.of_var {W : World} {n : String} {g : Nat} {cs : List Value} (hg : Tryd.prog.globalNamed n = some g) (h : W.var? Tryd.prog n = some cs.toArray) : TbW (hp W) g cs := by
  unfold World.var? at h
  rw [hg] at h
  simp only [Option.bind_some] at h
  cases hb : W.heap[g]? with
  | none => rw [hb] at h; cases h
  | some ob =>
    rw [hb] at h
    cases ob with
    | cells c T q =>
      have e : c = cs.toArray := Option.some.inj h
      exact TbW.start (T := T) (q := q) (by rw [hb, e])
    | _ => cases h
theorem TbW.of_cell {W : World} {g : Nat} {v : Value} (h : W.cell? ⟨g, 0, none⟩ = some v) : TbW (hp W) g [v] := by
  intro w hw o u hu
  cases o with
  | zero =>
    have e : v = u := Option.some.inj hu
    subst e
    unfold World.cell? at h
    cases hb : W.heap[g]? with
    | none => simp [hb] at h
    | some ob =>
      have h2 : w.heap[g]? = some ob := hw g _ hb
      show w.cell? ⟨g, 0, none⟩ = some v
      unfold World.cell?
      simp only [hb] at h
      simp only [h2]
      exact h
  | succ o => cases hu
theorem lib_of {W : World} (h : laidMetH Tryd.prog laidR W) (hs : W.ShapedOpen Tryd.prog) : LibOk (hp W) := by
  rw [MakeChecks.laidMetH_plain _ _ _ (by kernel_rfl)] at h
  have h3 := h.tail.tail
  have h5 := h3.tail.tail
  have h6 := h5.tail
  obtain ⟨m, hm⟩ := cell_of_shapedOpen_int (g := 2) (zero := #[.int .i64 0]) (k := .i64) hs (of_decide_eq_true (by kernel_rfl)) (by kernel_rfl) (by kernel_rfl) (by kernel_rfl) (by kernel_rfl) Tryd.underlying3
  obtain ⟨a0, s0, hv0, _⟩ := laid_sentinel h5 gErrR (by kernel_rfl) Tryd.underlying60 errRow Tryd.underlying134 Tryd.underlying136 rfl rfl Tryd.underlying9 (by kernel_rfl) (by kernel_rfl)
  obtain ⟨a1, s1, hv1, _⟩ := laid_sentinel h6 gErrS (by kernel_rfl) Tryd.underlying60 errRow Tryd.underlying134 Tryd.underlying136 rfl rfl Tryd.underlying9 (by kernel_rfl) (by kernel_rfl)
  refine ⟨⟨m, TbW.of_cell hm⟩, ⟨_, _, TbW.of_var (cs := [_]) gErrS hv1⟩, ⟨_, _, TbW.of_var (cs := [_]) gErrR hv0⟩, TabU.start ?_⟩
  rw [pow_tab] at h3
  exact Lib.tabIs_of_head gPow (by kernel_rfl) Tryd.underlying138 Tryd.underlying114 (by kernel_rfl) (by kernel_rfl) h3

end Go.Proofs.YtklcecpjgingpaaDoor
namespace Go.Proofs.YtklcecpjgingpaaDoor
open Go.ChangeShapes Go.WideShapes Go.ChangeAt Go.RowKit Go.Lib Go.Shelf
theorem u8_of {W : World} (h : laidMetH Tryd.prog laidR W) : U8T (hp W) := by
  rw [MakeChecks.laidMetH_plain _ _ _ (by kernel_rfl)] at h
  have e1 : (Rows.laid_unicode_utf8_first : DataW Unit) = firstData := by kernel_rfl
  have e2 : (Rows.laid_unicode_utf8_acceptRanges : DataW Unit) = acceptData := by kernel_rfl
  refine U8T.start (utf8Tabs_of_reads { decL with } ⟨by kernel_rfl, by kernel_rfl, by kernel_rfl, by kernel_rfl, by kernel_rfl, by kernel_rfl, by kernel_rfl⟩ (e1 ▸ Lib.laidMet.reads h ?_) (e2 ▸ Lib.laidMet.reads h ?_))
  · exact .tail _ (.tail _ (.tail _ (.tail _ (.tail _ (.tail _ (.head _))))))
  · exact .tail _ (.tail _ (.tail _ (.head _)))
theorem lawCodeReads (s : List UInt8) (W : World) (hT : LibOk (hp W)) (hU : U8T (hp W)) :
    Calls Tryd.prog 4 #[.string (sB s)] W fun e W' => e = .returned (.bool true) ∧ Below W.heap.size W W' :=
  law_of_ct (CodeReads_t s (hT.mono (Hp.le_un _ _)) (hU.mono (Hp.le_un _ _)) (SH.start W))
set_option maxRecDepth 100000 in
theorem codeReads_lifted (os : Os) (started : os.Started) (H : Type) (enc : TypeId × Value → H) :
    ReturnsInHanded {} Tryd.checked os 4 .any (fun w args => (Rows.codeReadsSpec.pre enc Tryd.prog Tryd.f4 [] false w args ∧ laidMetH Tryd.prog laidR w) ∧ sizedMet enc Tryd.prog Tryd.f4 (OpenSpec.ofChange Rows.codeReadsSpec) false w args)
      (Rows.codeReadsSpec.post enc Tryd.prog Tryd.f4 false true false false) := by
  refine law_lift_laidW (C := Tryd.checked) (tb := 4) (Z := laidMetH Tryd.prog laidR) (fun _ _ hh h => h.of_heap hh) (by kernel_rfl) started (by kernel_rfl) Tryd.func4
    (ChangeSpec.witness_shaped (enc := enc) (C := Tryd.checked) (os := os) (X := fun w _ => laidMetH Tryd.prog laidR w) false (World.laidAll Tryd.prog os laidR) #[.string ⟨#[]⟩] 8 (World.laidAll_os _ _ _)
      (World.shaped_of_ZipB (by kernel_rfl) (by kernel_rfl)) (by kernel_rfl) (by kernel_rfl) (by kernel_rfl)
      (by rw [MakeChecks.laidMetH_plain _ _ _ (by kernel_rfl)]; exact laidMet_laidAll _ (by kernel_rfl) (by kernel_rfl)))
    rfl (by kernel_rfl) (by kernel_rfl) rfl Tryd.underlying4 ?_ ?_
  · intro ds hds
    match ds, hds with
    | [d0], _ => rfl
  · intro W base args ds p hval hA _ hlt hsz hzw hshape
    rw [Tryd.params4] at hA hval hsz
    obtain ⟨v0, vs0, d0, ds0, p0, q0, hargs, rfl, rfl, h0, r0⟩ := trodAll_cons hA
    obtain ⟨rfl, rfl, rfl⟩ := trodAll_nil r0
    obtain rfl : args = #[v0] := by cases args; simp_all
    obtain ⟨s0, rfl, rfl, rfl, _⟩ := Go.ChangeMaps.open_string Tryd.underlying9 (hval 0 9 v0 rfl rfl) h0
    have := lawCodeReads s0.data.toList W (lib_of hzw hshape) (u8_of hzw)
    rwa [sB_data] at this
theorem codeReads_row : Rows.CodeReadsSaid :=
  OpenClaim.holds_of_wide 4 Tryd.f4 rfl rfl rfl rfl rfl rfl rfl ⟨rfl, rfl, rfl, rfl, rfl⟩ rfl rfl rfl rfl rfl (by kernel_rfl) Tryd.func4 (by kernel_rfl)
    (of_decide_eq_true (by kernel_rfl)) (by unfold Func.isWrapper; first | (rw [if_pos (by decide +kernel)]; kernel_rfl) | (rw [if_neg (by decide +kernel)]; exact ⟨rfl, rfl⟩))
    (fun os started H enc _ => codeReads_lifted os started H enc)
/-- THE TIED CARD. -/
theorem codeReads_holds : Rows.CodeReadsCardSaid :=
  Claim7.holds_tied_plain_at .later [] [.data, .data, .data, .data, .sentinel, .sentinel, .pinned] true (true, "c55e4ea568c9eee97985937ab927335e46c8ee229c4941e0cfc400de07e047d2") true
    codeReads_row (fun _ h => by cases h) (by kernel_rfl) (fun _ h => by cases h) codeReads_row_tie rfl ⟨rfl, rfl⟩ (by kernel_rfl) rfl
    (fun f fn hf hfn => by
      obtain rfl : f = 4 := Option.some.inj ((show Tryd.prog.funcNamed "knotwork/knotworklaw.CodeReads" = some 4 by kernel_rfl).symm.trans hf) |>.symm
      obtain rfl : fn = Tryd.f4 := (Option.some.inj (Tryd.func4.symm.trans hfn)).symm
      exact ⟨by kernel_rfl, fun j t ht => by
        rw [Tryd.params4] at ht
        have hm : t ∈ [9] := by simpa using Array.mem_of_getElem? ht
        have hall : ([9].all fun u => !Tryd.prog.wantsStandIn u) = true := by kernel_rfl
        exact (show Tryd.prog.wantsStandIn t = false by simpa using List.all_eq_true.1 hall t hm)⟩)
    (by kernel_rfl)
#print axioms codeReads_holds
end Go.Proofs.YtklcecpjgingpaaDoor
