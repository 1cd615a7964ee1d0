/- Part 12 of the proof of the law AlexTells: the walks through its functions and the plain laws that they need. -/
import Derived.Test.YtkcighnochjlgaaAtZ11
import Derived.Lib.SmallJoins
import Derived.Deep.Slices
import Derived.Deep.Fields
import Derived.ChangeSame
set_option linter.unusedSimpArgs false
set_option linter.unusedVariables false
namespace Go.Proofs.Ytkcighnochjlgaa
open Go.ChangeShapes Go.WideShapes Go.ChangeAt Go.RowKit
def detA (l : List Tm) : Int := max (atN l (-1) l.length) (wr (-(atN l (-1) l.length)))
def ADetT (d : Dg) (u : Value) (_ : Hp) : Prop := (errK d 10 ≠ 0 ∧ u = .tuple [.int .i64 0, .int .i64 (errK d 10)].toArray) ∨ (errK d 10 = 0 ∧ ∃ l, IsAlex d l ∧ u = .tuple [.int .i64 (detA l), .int .i64 0].toArray)
theorem atN_step {l : List Tm} {i : Nat} (h : 0 ≤ (ga l i).e ∧ (ga l i).e ≤ 24 ∧ wr (ga l i).c = (ga l i).c) : wr (atN l (-1) i + wr ((ga l i).c * (1 - 2 * Int.tmod (ga l i).e 2))) = atN l (-1) (i + 1) := by
 obtain ⟨h1, h2, h3⟩ := h
 have e1 : Int.tmod (ga l i).e 2 = (ga l i).e % 2 := Int.tmod_eq_emod_of_nonneg h1
 rw [atN]
 by_cases e : (ga l i).e % 2 = 0
 ·rw [e1, e, if_neg (by omega), show (1 : Int) - 2 * 0 = 1 by rfl, Int.mul_one, h3]
 ·have e2 : (ga l i).e % 2 = 1 := by omega
  rw [e1, e2, if_pos (by omega), show (1 : Int) - 2 * 1 = -1 by rfl]
  exact wr_md.2 ((md_add rfl (md_wr _)).trans (by congr 1; omega))
noncomputable def ADeterminant_n0 : Code := Try.f38.body.getD .skip
noncomputable def ADeterminant_n1 : Code := cL ADeterminant_n0
noncomputable def ADeterminant_n2 : Code := cR ADeterminant_n0
noncomputable def ADeterminant_n3 : Code := cL ADeterminant_n2
noncomputable def ADeterminant_n4 : Code := cR ADeterminant_n2
noncomputable def ADeterminant_n5 : Code := cL ADeterminant_n4
noncomputable def ADeterminant_n6 : Code := cR ADeterminant_n4
noncomputable def ADeterminant_n7 : Code := cL ADeterminant_n5
noncomputable def ADeterminant_n8 : Code := cR ADeterminant_n5
noncomputable def ADeterminant_n9 : Code := cL ADeterminant_n8
noncomputable def ADeterminant_n10 : Code := cR ADeterminant_n8
noncomputable def ADeterminant_n11 : Code := cL ADeterminant_n9
noncomputable def ADeterminant_n12 : Code := cR ADeterminant_n9
noncomputable def ADeterminant_n13 : Code := cL ADeterminant_n6
noncomputable def ADeterminant_n14 : Code := cR ADeterminant_n6
noncomputable def ADeterminant_n15 : Code := cL ADeterminant_n14
noncomputable def ADeterminant_n16 : Code := cR ADeterminant_n14
noncomputable def ADeterminant_n17 : Code := cL ADeterminant_n15
noncomputable def ADeterminant_n18 : Code := cR ADeterminant_n15
noncomputable def ADeterminant_n19 : Code := cL ADeterminant_n18
noncomputable def ADeterminant_n20 : Code := cL ADeterminant_n19
noncomputable def ADeterminant_n21 : Code := cL ADeterminant_n20
noncomputable def ADeterminant_n22 : Code := cR ADeterminant_n20
noncomputable def ADeterminant_n23 : Code := cL ADeterminant_n22
noncomputable def ADeterminant_n24 : Code := cR ADeterminant_n22
noncomputable def ADeterminant_n25 : Code := cL ADeterminant_n23
noncomputable def ADeterminant_n26 : Code := cR ADeterminant_n23
noncomputable def ADeterminant_n27 : Code := cL ADeterminant_n24
noncomputable def ADeterminant_n28 : Code := cR ADeterminant_n24
noncomputable def ADeterminant_n29 : Code := cL ADeterminant_n27
noncomputable def ADeterminant_n30 : Code := cL ADeterminant_n29
noncomputable def ADeterminant_n31 : Code := cR ADeterminant_n29
noncomputable def ADeterminant_n32 : Code := cL ADeterminant_n16
noncomputable def ADeterminant_n33 : Code := cR ADeterminant_n16
set_option maxHeartbeats 1000000 in
set_option maxRecDepth 10000 in
theorem ADeterminant_t {w : World} {M : Hp} {X : Fr} (d : Dg) {dcrsA : Option Addr} {dcrsc : Nat} (hdcrs : RdA cdCr (M.un X.h) dcrsA dcrsc d.crs) (S : SH w M X []) : Ct Try.prog 38 [.agg [.slice dcrsA d.crs.length dcrsc, .int .i64 d.loops].toArray] w M X (ADetT d) := by
 unfold Ct
 have rmhdcrs : d.crs.length * 40 ≤ 140737488355328 := hdcrs.room
 refine calls_in (b := ADeterminant_n0) Try.func38 rfl Try.ntmps38 rfl (fun C hC => ?_)
 refine ws_sub [(0, _)] ⟨rfl, trivial⟩ ?_
 refine ws_seqN ADeterminant_n1 ADeterminant_n2 rfl rfl rfl ?_
 refine ws_region rfl ?_
 refine wlo 0 1 rfl rfl rfl (wo_box (l := [_, _]) rfl rfl rfl rfl rfl S ?_)
 intro gb1 w1 S1; clear S
 refine wla 1 2 rfl rfl rfl rfl rfl rfl rfl ?_
 refine wla 2 3 rfl rfl rfl rfl rfl rfl rfl ?_
 refine wl_end rfl ?_
 refine nm_sub [(1, _)] ⟨rfl, trivial⟩ ?_
 refine nm_thn ?_
 refine ws_seqN ADeterminant_n3 ADeterminant_n4 rfl rfl rfl ?_
 refine ws_region rfl ?_
 refine wlo 0 1 rfl rfl rfl (wo_run rfl rfl (run_loadN (us := [_, _]) rfl rfl Try.underlying51 rfl sz51 (S1.boxcs (i := 0) rfl ⟨rfl, rfl, trivial⟩)) ?_)
 refine wlo 1 2 rfl rfl rfl (wo_ct rfl rfl rfl rfl rfl rfl rfl cf37 S1 (Alexander_t d (hdcrs.mono S1.un_XH) S1.lend) ?_)
 intro vw2 w2 M1 hle1 S2 hRw2; clear S1
 replace hdcrs := hdcrs.mono (Hp.un_mono hle1 S2.mx)
 rcases hRw2 with ⟨hok, rfl⟩ | ⟨hok, A1, c1, l1, rfl, hr1, hia1⟩
 ·refine wlm 2 3 rfl rfl rfl rfl rfl rfl rfl ?_
  refine wlo 3 4 rfl rfl rfl (wo_run rfl rfl (run_extract rfl rfl rfl) ?_)
  refine wlo 4 5 rfl rfl rfl (wo_run rfl rfl (run_extract rfl rfl rfl) ?_)
  refine wla 5 6 rfl rfl rfl rfl rfl rfl rfl ?_
  refine wla 6 7 rfl rfl rfl rfl rfl rfl rfl ?_
  refine wl_end rfl ?_
  refine nm_sub [(4, _), (5, _)] ⟨rfl, rfl, trivial⟩ ?_
  refine nm_thn ?_
  refine ws_seqN ADeterminant_n5 ADeterminant_n6 rfl rfl rfl ?_
  refine ws_seqN ADeterminant_n7 ADeterminant_n8 rfl rfl rfl ?_
  refine ws_region rfl ?_
  refine wlm 0 1 rfl rfl rfl rfl rfl rfl rfl ?_
  refine wlo 1 2 rfl rfl rfl (wo_run rfl rfl (run_neq rfl rfl rfl) ?_)
  refine wl_end rfl ?_
  refine nm_sub [(4, _), (5, _), (15, _)] ⟨rfl, rfl, rfl, trivial⟩ ?_
  refine nm_thn ?_
  refine ws_condN ADeterminant_n9 ADeterminant_n10 rfl rfl rfl rfl (fun hb15 => ?_) (fun hb15 => ?_)
  ·have hb15 := of_decide_eq_true hb15
   refine ws_seqN ADeterminant_n11 ADeterminant_n12 rfl rfl rfl ?_
   refine ws_region rfl ?_
   refine wlm 0 1 rfl rfl rfl rfl rfl rfl rfl ?_
   refine wla 1 2 rfl rfl rfl rfl rfl rfl rfl ?_
   refine wla 2 3 rfl rfl rfl rfl rfl rfl rfl ?_
   refine wl_end rfl ?_
   refine nm_sub [(2, _), (3, _)] ⟨rfl, rfl, trivial⟩ ?_
   refine nm_thn ?_
   refine ws_ret hC [_, _] rfl rfl ⟨rfl, rfl, trivial⟩ ?_
   refine ⟨_, rfl, _, hle1, (S2.pick [] [] (by decide) trivial), ?_⟩
   exact .inl ⟨hok, rfl⟩
  ·have hb15 := of_decide_eq_false hb15
   exfalso; first | omega | (simp_all; done) | contradiction
 ·obtain ⟨heO, hnm⟩ := errK_ok hok
  obtain ⟨hmo, hpl⟩ := errO_ok heO
  obtain ⟨hn, hab, hlo0, hlo1⟩ := mayO hmo
  have hpos := isAlex_pos hia1
  have rmll1 : l1.length * 16 ≤ 140737488355328 := hr1.room
  refine wlm 2 3 rfl rfl rfl rfl rfl rfl rfl ?_
  refine wlo 3 4 rfl rfl rfl (wo_run rfl rfl (run_extract rfl rfl rfl) ?_)
  refine wlo 4 5 rfl rfl rfl (wo_run rfl rfl (run_extract rfl rfl rfl) ?_)
  refine wla 5 6 rfl rfl rfl rfl rfl rfl rfl ?_
  refine wla 6 7 rfl rfl rfl rfl rfl rfl rfl ?_
  refine wl_end rfl ?_
  refine nm_sub [(4, _), (5, _)] ⟨rfl, rfl, trivial⟩ ?_
  refine nm_thn ?_
  refine ws_seqN ADeterminant_n5 ADeterminant_n6 rfl rfl rfl ?_
  refine ws_seqN ADeterminant_n7 ADeterminant_n8 rfl rfl rfl ?_
  refine ws_region rfl ?_
  refine wlm 0 1 rfl rfl rfl rfl rfl rfl rfl ?_
  refine wlo 1 2 rfl rfl rfl (wo_run rfl rfl (run_neq rfl rfl rfl) ?_)
  refine wl_end rfl ?_
  refine nm_sub [(4, _), (5, _), (15, _)] ⟨rfl, rfl, rfl, trivial⟩ ?_
  refine nm_thn ?_
  refine ws_condN ADeterminant_n9 ADeterminant_n10 rfl rfl rfl rfl (fun hb15 => ?_) (fun hb15 => ?_)
  ·have hb15 := of_decide_eq_true hb15
   exfalso; first | omega | (simp_all; done) | contradiction
  ·have hb15 := of_decide_eq_false hb15
   refine ws_skip rfl ?_
   refine nm_sub [(4, _)] ⟨rfl, trivial⟩ ?_
   refine nm_thn ?_
   refine ws_seqN ADeterminant_n13 ADeterminant_n14 rfl rfl rfl ?_
   refine ws_region rfl ?_
   refine wla 0 1 rfl rfl rfl rfl rfl rfl rfl ?_
   refine wl_end rfl ?_
   refine nm_thn ?_
   refine ws_seqN ADeterminant_n15 ADeterminant_n16 rfl rfl rfl ?_
   refine ws_seqN ADeterminant_n17 ADeterminant_n18 rfl rfl rfl ?_
   refine ws_region rfl ?_
   refine wlm 0 1 rfl rfl rfl rfl rfl rfl rfl ?_
   refine wlo 1 2 rfl rfl rfl (wo_run rfl rfl (run_len rfl rfl rfl rfl rfl rfl Try.underlying22) ?_)
   refine wlm 2 3 rfl rfl rfl rfl rfl rfl rfl ?_
   refine wl_end rfl ?_
   refine nm_sub [(6, _), (17, _), (18, _), (19, _)] ⟨rfl, rfl, rfl, rfl, trivial⟩ ?_
   refine nm_thn ?_
   refine ws_blockN ADeterminant_n19 0 rfl rfl rfl ?_
   refine ws_loopE (fun mx_ ax_ wx_ => ∃ (i : Nat), mx_ = l1.length - i ∧ Env 38 [(6, .int .i64 (atN l1 (-1) i)), (17, .slice A1 l1.length c1), (18, .int .i64 (l1.length : Int)), (19, .int .i64 (i : Int))] ax_ ∧ SH wx_ M1 X [] ∧ i ≤ l1.length) rfl ?_ ?_
   ·intro ax_ hax_
    refine ⟨_, ⟨0, rfl, hax_.sub ⟨rfl, rfl, rfl, rfl, trivial⟩, S2.pick [] [] (by decide) trivial, ?hq1f0⟩⟩
    case hq1f0 => omega
   ·rintro m1 a1 w3 ⟨i, rfl, he1, S3, hi⟩
    clear S2
    refine ws_in he1 (c := ADeterminant_n20) rfl ?_
    clear he1 a1
    have hpo := hpos i
    have htm := Int.tmod_nonneg (a := (ga l1 i).e) 2
    have htm2 := Int.tmod_lt_of_pos (ga l1 i).e (b := 2) (by decide)
    refine ws_seqN ADeterminant_n21 ADeterminant_n22 rfl rfl rfl ?_
    refine ws_region rfl ?_
    refine wlo 0 1 rfl rfl rfl (wo_run rfl rfl (run_lss rfl rfl rfl) ?_)
    refine wl_end rfl ?_
    refine nm_thn ?_
    refine ws_seqN ADeterminant_n23 ADeterminant_n24 rfl rfl rfl ?_
    refine ws_condN ADeterminant_n25 ADeterminant_n26 rfl rfl rfl rfl (fun hb20 => ?_) (fun hb20 => ?_)
    ·have hb20 := of_decide_eq_true hb20
     refine ws_skip rfl ?_
     refine nm_sub [(6, _), (17, _), (18, _), (19, _)] ⟨rfl, rfl, rfl, rfl, trivial⟩ ?_
     refine nm_thn ?_
     refine ws_seqN ADeterminant_n27 ADeterminant_n28 rfl rfl rfl ?_
     refine ws_blockN ADeterminant_n29 1 rfl rfl rfl ?_
     refine ws_seqN ADeterminant_n30 ADeterminant_n31 rfl rfl rfl ?_
     refine ws_region rfl ?_
     refine wlo 0 1 rfl rfl rfl (wo_run rfl rfl (run_indexM (C := cdTm) i rfl rfl rfl sl22 (by first | rfl | omega) hr1 (by first | omega | (simp only [lens]; omega))) ?_)
     refine wlo 1 2 rfl rfl rfl (wo_run rfl rfl (run_loadN (us := [_, _]) rfl rfl Try.underlying89 rfl sz89 (hr1.cellsAt S3.m (e := i) (by first | omega | (simp only [lens]; omega)) (j := 0) ⟨rfl, rfl, trivial⟩)) ?_)
     refine wlo 2 3 rfl rfl rfl (wo_alloc (l := [_, _]) rfl rfl rfl zr89 rfl S3 ?_)
     intro gb2 w4 S4; clear S3
     refine wlo 3 4 rfl rfl rfl (wo_storeB (i := 0) (us := [_, _]) (l' := [_, _]) (H' := [_]) rfl rfl S4 rfl rfl rfl rfl sz89 rfl rfl rfl rfl ?_)
     intro w5 S5; clear S4
     refine wl_end rfl ?_
     refine nm_sub [(6, _), (17, _), (18, _), (19, _), (8, _)] ⟨rfl, rfl, rfl, rfl, rfl, trivial⟩ ?_
     refine nm_thn ?_
     obtain ⟨hp1, hp2, hp3⟩ := hpo (by omega)
     have htm3 := htm hp1
     refine ws_region rfl ?_
     refine wlm 0 1 rfl rfl rfl rfl rfl rfl rfl ?_
     refine wlo 1 2 rfl rfl rfl (wo_run rfl rfl (run_fieldAddr rfl rfl Try.underlying89 rfl (ce3) (nf3)) ?_)
     refine wlo 2 3 rfl rfl rfl (wo_run rfl rfl (run_load1 rfl rfl Try.underlying3 rfl (S5.boxc (i := 0) rfl rfl)) ?_)
     refine wlo 3 4 rfl rfl rfl (wo_run rfl rfl (run_fieldAddr rfl rfl Try.underlying89 rfl (ce3) (nf3)) ?_)
     refine wlo 4 5 rfl rfl rfl (wo_run rfl rfl (run_load1 rfl rfl Try.underlying3 rfl (S5.boxc (i := 0) rfl rfl)) ?_)
     refine wlo 5 6 rfl rfl rfl (wo_run rfl rfl (run_trem rfl rfl rfl (by decide)) ?_)
     refine wlo 6 7 rfl rfl rfl (wo_run rfl rfl (run_mul rfl rfl rfl (by first | omega | (simp only [lens]; omega))) ?_)
     refine wlo 7 8 rfl rfl rfl (wo_run rfl rfl (run_sub rfl rfl rfl (by first | omega | (simp only [lens]; omega))) ?_)
     refine wlo 8 9 rfl rfl rfl (wo_run rfl rfl (run_mulW rfl rfl rfl) ?_)
     refine wlo 9 10 rfl rfl rfl (wo_run rfl rfl (run_addW rfl rfl rfl) ?_)
     refine wla 10 11 rfl rfl rfl rfl rfl rfl rfl ?_
     refine wl_end rfl ?_
     refine nm_blk ?_
     refine nm_sub [(6, _), (17, _), (18, _), (19, _)] ⟨rfl, rfl, rfl, rfl, trivial⟩ ?_
     refine nm_thn ?_
     refine ws_eq 6 (.int .i64 (atN l1 (-1) (i + 1))) rfl (int_eq (atN_step (hpo (by omega)))) ?_
     refine ws_region rfl ?_
     refine wlo 0 1 rfl rfl rfl (wo_run rfl rfl (run_add rfl rfl rfl (by first | omega | (simp only [lens]; omega))) ?_)
     refine wlm 1 2 rfl rfl rfl rfl rfl rfl rfl ?_
     refine wl_end rfl ?_
     refine nm_lp ?_
     intro ax_ hax_
     refine ⟨_, ?hq2m, ⟨i + 1, rfl, hax_.sub ⟨rfl, rfl, rfl, rfl, trivial⟩, S5.pick [] [] (by decide) trivial, ?hq2f0⟩⟩
     case hq2f0 => omega
     case hq2m => omega
    ·have hb20 := of_decide_eq_false hb20
     refine ws_exit rfl rfl ?_
     refine nm_sub [(6, _)] ⟨rfl, trivial⟩ ?_
     refine nm_thn ?_
     refine ws_seqN ADeterminant_n32 ADeterminant_n33 rfl rfl rfl ?_
     refine ws_region rfl ?_
     refine wlm 0 1 rfl rfl rfl rfl rfl rfl rfl ?_
     refine wlm 1 2 rfl rfl rfl rfl rfl rfl rfl ?_
     refine wlo 2 3 rfl rfl rfl (wo_run rfl rfl (run_negW rfl rfl) ?_)
     refine wlo 3 4 rfl rfl rfl (wo_run rfl rfl (run_max rfl rfl rfl rfl rfl) ?_)
     refine wla 4 5 rfl rfl rfl rfl rfl rfl rfl ?_
     refine wla 5 6 rfl rfl rfl rfl rfl rfl rfl ?_
     refine wl_end rfl ?_
     refine nm_sub [(2, _), (3, _)] ⟨rfl, rfl, trivial⟩ ?_
     refine nm_thn ?_
     refine ws_ret hC [_, _] rfl rfl ⟨rfl, rfl, trivial⟩ ?_
     refine ⟨_, rfl, _, hle1, (S3.pick [] [] (by decide) trivial), ?_⟩
     obtain rfl : i = l1.length := by omega
     exact .inr ⟨hok, _, hia1, rfl⟩
end Go.Proofs.Ytkcighnochjlgaa
namespace Go.Proofs.Ytkcighnochjlgaa
open Go.ChangeShapes Go.WideShapes Go.ChangeAt Go.RowKit
theorem dF_congr {m m' : Nat → Nat → Pol} {N : Nat} : ∀ (rs : List Nat) (S : Nat → Bool), (∀ r ∈ rs, ∀ c, c < N → m r c = m' r c) → dF m N rs S = dF m' N rs S
 | [], _, _ => rfl
 | r :: rs, S, h => by
  rw [dF, dF]
  refine sm_congr fun c hc => ?_
  rw [h r (by simp) c hc, dF_congr rs (del S c) (fun q hq => h q (by simp [hq]))]
theorem detP_congr {m m' : Nat → Nat → Pol} {n : Nat} (h : ∀ i, i < n → ∀ k, k < n → m i k = m' i k) : detP m n = detP m' n :=
 dF_congr _ _ fun r hr c hc => h r (List.mem_range.1 hr) c hc
def lessA (d : Dg) (k : Nat) : List (List (List Tm)) := (List.range k).map fun i => (rowL d i).take (mny d - 1)
theorem lessA_len (d : Dg) (k : Nat) : (lessA d k).length = k := by simp [lessA]
theorem lessA_ga (d : Dg) {k i : Nat} (h : i < k) : ga (lessA d k) i = (rowL d i).take (mny d - 1) := by
 unfold lessA
 rw [ga_map _ _ _ (by rw [List.length_range]; exact h), ga_eq (by rw [List.length_range]; exact h), List.getElem_range]
theorem lessA_succ (d : Dg) (k : Nat) : lessA d (k + 1) = lessA d k ++ [(rowL d k).take (mny d - 1)] := by
 unfold lessA; rw [List.range_succ, List.map_append]; rfl
theorem lessA_sq (d : Dg) : SqT (lessA d (mny d - 1)) (mny d - 1) 1 := ⟨lessA_len _ _, fun i hi => by rw [lessA_ga d hi, List.length_take, rowL_len]; omega, fun i hi k hk => by
 rw [lessA_ga d hi, ga_take _ _ _ hk]
 exact (rokL d i k (by rw [rowL_len]; omega)).2⟩
theorem lessA_det (d : Dg) : dT (mny d - 1) (mkM (lessA d (mny d - 1))) = detP (mmA d) (mny d - 1) := by
 rw [dT_mkM (lessA_sq d)]
 exact detP_congr (fun i hi k hk => by unfold mmP mmA; rw [lessA_ga d hi, ga_take _ _ _ hk])
noncomputable def AlexanderOf_n0 : Code := Try.f39.body.getD .skip
noncomputable def AlexanderOf_n1 : Code := cL AlexanderOf_n0
noncomputable def AlexanderOf_n2 : Code := cR AlexanderOf_n0
noncomputable def AlexanderOf_n3 : Code := cL AlexanderOf_n2
noncomputable def AlexanderOf_n4 : Code := cR AlexanderOf_n2
noncomputable def AlexanderOf_n5 : Code := cL AlexanderOf_n4
noncomputable def AlexanderOf_n6 : Code := cR AlexanderOf_n4
noncomputable def AlexanderOf_n7 : Code := cL AlexanderOf_n5
noncomputable def AlexanderOf_n8 : Code := cR AlexanderOf_n5
noncomputable def AlexanderOf_n9 : Code := cL AlexanderOf_n8
noncomputable def AlexanderOf_n10 : Code := cR AlexanderOf_n8
noncomputable def AlexanderOf_n11 : Code := cL AlexanderOf_n9
noncomputable def AlexanderOf_n12 : Code := cR AlexanderOf_n9
noncomputable def AlexanderOf_n13 : Code := cL AlexanderOf_n6
noncomputable def AlexanderOf_n14 : Code := cR AlexanderOf_n6
noncomputable def AlexanderOf_n15 : Code := cL AlexanderOf_n14
noncomputable def AlexanderOf_n16 : Code := cR AlexanderOf_n14
noncomputable def AlexanderOf_n17 : Code := cL AlexanderOf_n15
noncomputable def AlexanderOf_n18 : Code := cR AlexanderOf_n15
noncomputable def AlexanderOf_n19 : Code := cL AlexanderOf_n18
noncomputable def AlexanderOf_n20 : Code := cR AlexanderOf_n18
noncomputable def AlexanderOf_n21 : Code := cL AlexanderOf_n19
noncomputable def AlexanderOf_n22 : Code := cR AlexanderOf_n19
noncomputable def AlexanderOf_n23 : Code := cL AlexanderOf_n16
noncomputable def AlexanderOf_n24 : Code := cR AlexanderOf_n16
noncomputable def AlexanderOf_n25 : Code := cL AlexanderOf_n24
noncomputable def AlexanderOf_n26 : Code := cR AlexanderOf_n24
noncomputable def AlexanderOf_n27 : Code := cL AlexanderOf_n25
noncomputable def AlexanderOf_n28 : Code := cR AlexanderOf_n25
noncomputable def AlexanderOf_n29 : Code := cL AlexanderOf_n28
noncomputable def AlexanderOf_n30 : Code := cR AlexanderOf_n28
noncomputable def AlexanderOf_n31 : Code := cL AlexanderOf_n26
noncomputable def AlexanderOf_n32 : Code := cR AlexanderOf_n26
noncomputable def AlexanderOf_n33 : Code := cL AlexanderOf_n32
noncomputable def AlexanderOf_n34 : Code := cR AlexanderOf_n32
noncomputable def AlexanderOf_n35 : Code := cL AlexanderOf_n33
noncomputable def AlexanderOf_n36 : Code := cR AlexanderOf_n33
noncomputable def AlexanderOf_n37 : Code := cL AlexanderOf_n36
noncomputable def AlexanderOf_n38 : Code := cL AlexanderOf_n37
noncomputable def AlexanderOf_n39 : Code := cL AlexanderOf_n38
noncomputable def AlexanderOf_n40 : Code := cR AlexanderOf_n38
noncomputable def AlexanderOf_n41 : Code := cL AlexanderOf_n39
noncomputable def AlexanderOf_n42 : Code := cR AlexanderOf_n39
noncomputable def AlexanderOf_n43 : Code := cL AlexanderOf_n42
noncomputable def AlexanderOf_n44 : Code := cR AlexanderOf_n42
noncomputable def AlexanderOf_n45 : Code := cL AlexanderOf_n40
noncomputable def AlexanderOf_n46 : Code := cR AlexanderOf_n40
noncomputable def AlexanderOf_n47 : Code := cL AlexanderOf_n45
noncomputable def AlexanderOf_n48 : Code := cL AlexanderOf_n34
noncomputable def AlexanderOf_n49 : Code := cR AlexanderOf_n34
set_option maxHeartbeats 1000000 in
set_option maxRecDepth 10000 in
theorem AlexanderOf_t {w : World} {M : Hp} {X : Fr} (d : Dg) {dcrsA : Option Addr} {dcrsc : Nat} (hdcrs : RdA cdCr (M.un X.h) dcrsA dcrsc d.crs) (hn : d.crs.length ≤ 10) (hab : arcsB d = true) (hlo0 : 0 ≤ d.loops) (hlo1 : d.loops ≤ 16) (S : SH w M X []) : Ct Try.prog 39 [.agg [.slice dcrsA d.crs.length dcrsc, .int .i64 d.loops].toArray] w M X (fun u N => ∃ A c l, u = .slice A l.length c ∧ RdA cdTm N A c l ∧ IsAlex d l) := by
 unfold Ct
 have rmhdcrs : d.crs.length * 40 ≤ 140737488355328 := hdcrs.room
 refine calls_in (b := AlexanderOf_n0) Try.func39 rfl Try.ntmps39 rfl (fun C hC => ?_)
 refine ws_sub [(0, _)] ⟨rfl, trivial⟩ ?_
 refine ws_seqN AlexanderOf_n1 AlexanderOf_n2 rfl rfl rfl ?_
 refine ws_region rfl ?_
 refine wlo 0 1 rfl rfl rfl (wo_box (l := [_, _]) rfl rfl rfl rfl rfl S ?_)
 intro gb1 w1 S1; clear S
 refine wla 1 2 rfl rfl rfl rfl rfl rfl rfl ?_
 refine wl_end rfl ?_
 refine nm_sub [(1, _)] ⟨rfl, trivial⟩ ?_
 refine nm_thn ?_
 refine ws_seqN AlexanderOf_n3 AlexanderOf_n4 rfl rfl rfl ?_
 refine ws_region rfl ?_
 refine wlo 0 1 rfl rfl rfl (wo_run rfl rfl (run_fieldAddr rfl rfl Try.underlying51 rfl (ce49) (nf49)) ?_)
 refine wlo 1 2 rfl rfl rfl (wo_run rfl rfl (run_load1 rfl rfl Try.underlying49 rfl (S1.boxc (i := 0) rfl rfl)) ?_)
 refine wlo 2 3 rfl rfl rfl (wo_run rfl rfl (run_len rfl rfl rfl rfl rfl rfl Try.underlying49) ?_)
 refine wla 3 4 rfl rfl rfl rfl rfl rfl rfl ?_
 refine wl_end rfl ?_
 refine nm_sub [(1, _), (3, _)] ⟨rfl, rfl, trivial⟩ ?_
 refine nm_thn ?_
 refine ws_seqN AlexanderOf_n5 AlexanderOf_n6 rfl rfl rfl ?_
 refine ws_seqN AlexanderOf_n7 AlexanderOf_n8 rfl rfl rfl ?_
 refine ws_region rfl ?_
 refine wlm 0 1 rfl rfl rfl rfl rfl rfl rfl ?_
 refine wlo 1 2 rfl rfl rfl (wo_run rfl rfl (run_eql rfl rfl rfl) ?_)
 refine wlm 2 3 rfl rfl rfl rfl rfl rfl rfl ?_
 refine wl_split (t := 13) rfl (fun hg13 => ?_) (fun hg13 => ?_)
 ·have hg13 := of_decide_eq_true hg13
  refine wl_opG (k := 3) (k' := 4) rfl rfl ⟨_, _, _, rfl, rfl, rfl, rfl⟩ rfl (wo_run rfl rfl (run_fieldAddr rfl rfl Try.underlying51 rfl (ce3) (nf3)) ?_)
  refine wl_opG (k := 4) (k' := 5) rfl rfl ⟨_, _, _, rfl, rfl, rfl, rfl⟩ rfl (wo_run rfl rfl (run_load1 rfl rfl Try.underlying3 rfl (S1.boxc (i := 0) rfl rfl)) ?_)
  refine wl_opG (k := 5) (k' := 6) rfl rfl ⟨_, _, _, rfl, rfl, rfl, rfl⟩ rfl (wo_run rfl rfl (run_eql rfl rfl rfl) ?_)
  refine wlo 6 7 rfl rfl rfl (wo_run rfl rfl (run_pickT rfl rfl rfl) ?_)
  refine wl_end rfl ?_
  refine nm_sub [(1, _), (3, _), (17, _)] ⟨rfl, rfl, rfl, trivial⟩ ?_
  refine nm_thn ?_
  refine ws_condN AlexanderOf_n9 AlexanderOf_n10 rfl rfl rfl rfl (fun hb17 => ?_) (fun hb17 => ?_)
  ·have hb17 := of_decide_eq_true hb17
   refine ws_seqN AlexanderOf_n11 AlexanderOf_n12 rfl rfl rfl ?_
   refine ws_region rfl ?_
   refine wlo 0 1 rfl rfl rfl (wo_run rfl rfl (run_build (l := [_, _]) rfl rfl st89 rfl rfl) ?_)
   refine wlo 1 2 rfl rfl rfl (wo_buildSlice1 (C := cdTm) (l := [_, _]) rfl rfl rfl rfl sl22 rfl rfl rfl rfl S1 ?_)
   intro gb2 w2 S2; clear S1
   refine wla 2 3 rfl rfl rfl rfl rfl rfl rfl ?_
   refine wl_end rfl ?_
   refine nm_sub [(2, _)] ⟨rfl, trivial⟩ ?_
   refine nm_thn ?_
   obtain ⟨M1, hle1, S3, hr1⟩ := S2.pubbox (C := cdTm) (z := (⟨0, 1⟩ : Tm)) (i := 0) (H' := [_, _]) rfl rfl rfl (by decide)
   clear S2
   replace hdcrs := hdcrs.mono (Hp.un_mono hle1 S3.mx)
   refine ws_ret hC [_] rfl rfl ⟨rfl, trivial⟩ ?_
   refine ⟨_, rfl, _, hle1, (S3.pick [] [] (by decide) trivial), ?_⟩
   exact ⟨_, _, _, rfl, hr1, by unfold IsAlex; rw [if_pos ⟨by omega, by omega⟩]⟩
  ·have hb17 := of_decide_eq_false hb17
   refine ws_skip rfl ?_
   refine nm_sub [(1, _), (3, _)] ⟨rfl, rfl, trivial⟩ ?_
   refine nm_thn ?_
   refine ws_seqN AlexanderOf_n13 AlexanderOf_n14 rfl rfl rfl ?_
   refine ws_region rfl ?_
   refine wlo 0 1 rfl rfl rfl (wo_run rfl rfl (run_loadN (us := [_, _]) rfl rfl Try.underlying51 rfl sz51 (S1.boxcs (i := 0) rfl ⟨rfl, rfl, trivial⟩)) ?_)
   refine wlo 1 2 rfl rfl rfl (wo_ct rfl rfl rfl rfl rfl rfl rfl cf79 S1 (OversOf_t d (hdcrs.mono S1.un_XH) ((by omega)) (hab) S1.lend) ?_)
   intro vw3 w3 M2 hle2 S4 hRw3; clear S1
   replace hdcrs := hdcrs.mono (Hp.un_mono hle2 S4.mx)
   obtain ⟨A1, c1, rfl, hr2⟩ := hRw3
   have hovl : (ovTail d).length = 2 * d.crs.length := by simp [ovTail]
   refine wlo 2 3 rfl rfl rfl (wo_cq rfl rfl rfl rfl rfl rfl rfl cf80 S4 (mostOf_q (ovTail d) (hr2.mono (Hp.le_un _ _)) ((ovTail_bd hab (by omega))) S4.lend) ?_)
   rintro _ w4 S5 rfl; clear S4
   refine wla 3 4 rfl rfl rfl rfl rfl rfl rfl ?_
   refine wl_end rfl ?_
   refine nm_sub [(1, _), (3, _), (4, _)] ⟨rfl, rfl, rfl, trivial⟩ ?_
   refine nm_thn ?_
   refine ws_seqN AlexanderOf_n15 AlexanderOf_n16 rfl rfl rfl ?_
   refine ws_seqN AlexanderOf_n17 AlexanderOf_n18 rfl rfl rfl ?_
   have hmb := rk_bd d (2 * d.crs.length + 1)
   have hmn : mostN (ovTail d) (ovTail d).length = (mny d : Int) := by rw [hovl, most_ov hab _ (Nat.le_refl _)]; unfold mny; omega
   have hmge := mny_ge d
   have hmn2 : mny d ≤ 21 := by unfold mny; omega
   refine ws_eq 4 (.int .i64 (mny d : Int)) rfl (int_eq hmn) ?_
   refine ws_region rfl ?_
   refine wlm 0 1 rfl rfl rfl rfl rfl rfl rfl ?_
   refine wlo 1 2 rfl rfl rfl (wo_run rfl rfl (run_eql rfl rfl rfl) ?_)
   refine wlm 2 3 rfl rfl rfl rfl rfl rfl rfl ?_
   refine wl_split (t := 25) rfl (fun hg25 => ?_) (fun hg25 => ?_)
   ·have hg25 := of_decide_eq_true hg25
    refine wl_no (k := 3) (k' := 4) (d := 26) rfl rfl ⟨_, _, _, rfl, rfl, rfl, rfl⟩ rfl rfl ?_
    refine wl_no (k := 4) (k' := 5) (d := 27) rfl rfl ⟨_, _, _, rfl, rfl, rfl, rfl⟩ rfl rfl ?_
    refine wl_no (k := 5) (k' := 6) (d := 28) rfl rfl ⟨_, _, _, rfl, rfl, rfl, rfl⟩ rfl rfl ?_
    refine wlo 6 7 rfl rfl rfl (wo_run rfl rfl (run_pickT rfl rfl rfl) ?_)
    refine wlm 7 8 rfl rfl rfl rfl rfl rfl rfl ?_
    refine wl_no (k := 8) (k' := 9) (d := 31) rfl rfl ⟨_, _, _, rfl, rfl, rfl, rfl⟩ rfl rfl ?_
    refine wl_no (k := 9) (k' := 10) (d := 32) rfl rfl ⟨_, _, _, rfl, rfl, rfl, rfl⟩ rfl rfl ?_
    refine wl_no (k := 10) (k' := 11) (d := 33) rfl rfl ⟨_, _, _, rfl, rfl, rfl, rfl⟩ rfl rfl ?_
    refine wl_no (k := 11) (k' := 12) (d := 34) rfl rfl ⟨_, _, _, rfl, rfl, rfl, rfl⟩ rfl rfl ?_
    refine wlo 12 13 rfl rfl rfl (wo_run rfl rfl (run_pickT rfl rfl rfl) ?_)
    refine wl_end rfl ?_
    refine nm_sub [(1, _), (3, _), (4, _), (35, _)] ⟨rfl, rfl, rfl, rfl, trivial⟩ ?_
    refine nm_thn ?_
    refine ws_condTN AlexanderOf_n19 rfl rfl rfl ?_
    refine ws_seqN AlexanderOf_n21 AlexanderOf_n22 rfl rfl rfl ?_
    refine ws_region rfl ?_
    refine wla 0 1 rfl rfl rfl rfl rfl rfl rfl ?_
    refine wl_end rfl ?_
    refine nm_sub [(2, _)] ⟨rfl, trivial⟩ ?_
    refine nm_thn ?_
    refine ws_ret hC [_] rfl rfl ⟨rfl, trivial⟩ ?_
    refine ⟨_, rfl, _, hle2, (S5.pick [] [] (by decide) trivial), ?_⟩
    exact ⟨none, 0, [], rfl, RdA.nil_, by unfold IsAlex; rw [if_neg (by omega), if_pos (by omega)]⟩
   ·have hg25 := of_decide_eq_false hg25
    refine wl_opG (k := 3) (k' := 4) rfl rfl ⟨_, _, _, rfl, rfl, rfl, rfl⟩ rfl (wo_run rfl rfl (run_fieldAddr rfl rfl Try.underlying51 rfl (ce3) (nf3)) ?_)
    refine wl_opG (k := 4) (k' := 5) rfl rfl ⟨_, _, _, rfl, rfl, rfl, rfl⟩ rfl (wo_run rfl rfl (run_load1 rfl rfl Try.underlying3 rfl (S5.boxc (i := 0) rfl rfl)) ?_)
    refine wl_opG (k := 5) (k' := 6) rfl rfl ⟨_, _, _, rfl, rfl, rfl, rfl⟩ rfl (wo_run rfl rfl (run_gtr rfl rfl rfl) ?_)
    refine wlo 6 7 rfl rfl rfl (wo_run rfl rfl (run_pickF rfl rfl rfl) ?_)
    refine wlm 7 8 rfl rfl rfl rfl rfl rfl rfl ?_
    refine wl_split (t := 30) rfl (fun hg30 => ?_) (fun hg30 => ?_)
    ·have hg30 := of_decide_eq_true hg30
     refine wl_no (k := 8) (k' := 9) (d := 31) rfl rfl ⟨_, _, _, rfl, rfl, rfl, rfl⟩ rfl rfl ?_
     refine wl_no (k := 9) (k' := 10) (d := 32) rfl rfl ⟨_, _, _, rfl, rfl, rfl, rfl⟩ rfl rfl ?_
     refine wl_no (k := 10) (k' := 11) (d := 33) rfl rfl ⟨_, _, _, rfl, rfl, rfl, rfl⟩ rfl rfl ?_
     refine wl_no (k := 11) (k' := 12) (d := 34) rfl rfl ⟨_, _, _, rfl, rfl, rfl, rfl⟩ rfl rfl ?_
     refine wlo 12 13 rfl rfl rfl (wo_run rfl rfl (run_pickT rfl rfl rfl) ?_)
     refine wl_end rfl ?_
     refine nm_sub [(1, _), (3, _), (4, _), (35, _)] ⟨rfl, rfl, rfl, rfl, trivial⟩ ?_
     refine nm_thn ?_
     refine ws_condTN AlexanderOf_n19 rfl rfl rfl ?_
     refine ws_seqN AlexanderOf_n21 AlexanderOf_n22 rfl rfl rfl ?_
     refine ws_region rfl ?_
     refine wla 0 1 rfl rfl rfl rfl rfl rfl rfl ?_
     refine wl_end rfl ?_
     refine nm_sub [(2, _)] ⟨rfl, trivial⟩ ?_
     refine nm_thn ?_
     refine ws_ret hC [_] rfl rfl ⟨rfl, trivial⟩ ?_
     refine ⟨_, rfl, _, hle2, (S5.pick [] [] (by decide) trivial), ?_⟩
     exact ⟨none, 0, [], rfl, RdA.nil_, by unfold IsAlex; rw [if_neg (by omega), if_pos (by omega)]⟩
    ·have hg30 := of_decide_eq_false hg30
     refine wl_opG (k := 8) (k' := 9) rfl rfl ⟨_, _, _, rfl, rfl, rfl, rfl⟩ rfl (wo_run rfl rfl (run_move rfl rfl) ?_)
     refine wl_opG (k := 9) (k' := 10) rfl rfl ⟨_, _, _, rfl, rfl, rfl, rfl⟩ rfl (wo_run rfl rfl (run_move rfl rfl) ?_)
     refine wl_opG (k := 10) (k' := 11) rfl rfl ⟨_, _, _, rfl, rfl, rfl, rfl⟩ rfl (wo_run rfl rfl (run_add rfl rfl rfl (by first | omega | (simp only [lens]; omega))) ?_)
     refine wl_opG (k := 11) (k' := 12) rfl rfl ⟨_, _, _, rfl, rfl, rfl, rfl⟩ rfl (wo_run rfl rfl (run_gtr rfl rfl rfl) ?_)
     refine wlo 12 13 rfl rfl rfl (wo_run rfl rfl (run_pickF rfl rfl rfl) ?_)
     refine wl_end rfl ?_
     refine nm_sub [(1, _), (3, _), (4, _), (35, _)] ⟨rfl, rfl, rfl, rfl, trivial⟩ ?_
     refine nm_thn ?_
     refine ws_condN AlexanderOf_n19 AlexanderOf_n20 rfl rfl rfl rfl (fun hb35 => ?_) (fun hb35 => ?_)
     ·have hb35 := of_decide_eq_true hb35
      refine ws_seqN AlexanderOf_n21 AlexanderOf_n22 rfl rfl rfl ?_
      refine ws_region rfl ?_
      refine wla 0 1 rfl rfl rfl rfl rfl rfl rfl ?_
      refine wl_end rfl ?_
      refine nm_sub [(2, _)] ⟨rfl, trivial⟩ ?_
      refine nm_thn ?_
      refine ws_ret hC [_] rfl rfl ⟨rfl, trivial⟩ ?_
      refine ⟨_, rfl, _, hle2, (S5.pick [] [] (by decide) trivial), ?_⟩
      exact ⟨none, 0, [], rfl, RdA.nil_, by unfold IsAlex; rw [if_neg (by omega), if_pos (by omega)]⟩
     ·have hb35 := of_decide_eq_false hb35
      refine ws_skip rfl ?_
      refine nm_sub [(1, _), (3, _), (4, _)] ⟨rfl, rfl, rfl, trivial⟩ ?_
      refine nm_thn ?_
      refine ws_seqN AlexanderOf_n23 AlexanderOf_n24 rfl rfl rfl ?_
      refine ws_region rfl ?_
      refine wlo 0 1 rfl rfl rfl (wo_run rfl rfl (run_loadN (us := [_, _]) rfl rfl Try.underlying51 rfl sz51 (S5.boxcs (i := 0) rfl ⟨rfl, rfl, trivial⟩)) ?_)
      refine wlo 1 2 rfl rfl rfl (wo_ct rfl rfl rfl rfl rfl rfl rfl cf36 S5 (TableOf_t d (hdcrs.mono S5.un_XH) ((by omega)) (hab) S5.lend) ?_)
      intro vw5 w5 M3 hle3 S6 hRw5; clear S5
      replace hdcrs := hdcrs.mono (Hp.un_mono hle3 S6.mx)
      replace hr2 := hr2.mono hle3
      obtain ⟨A2, c2, vs1, ss1, rfl, hr3, hd1, h31⟩ := hRw5
      have hlhd1 := hd1.1
      have hlh31 := h31.1
      have htl := tblA_len d
      refine wla 2 3 rfl rfl rfl rfl rfl rfl rfl ?_
      refine wl_end rfl ?_
      refine nm_sub [(3, _), (4, _), (5, _)] ⟨rfl, rfl, rfl, trivial⟩ ?_
      refine nm_thn ?_
      refine ws_seqN AlexanderOf_n25 AlexanderOf_n26 rfl rfl rfl ?_
      refine ws_seqN AlexanderOf_n27 AlexanderOf_n28 rfl rfl rfl ?_
      refine ws_region rfl ?_
      refine wlm 0 1 rfl rfl rfl rfl rfl rfl rfl ?_
      refine wlm 1 2 rfl rfl rfl rfl rfl rfl rfl ?_
      refine wlo 2 3 rfl rfl rfl (wo_run rfl rfl (run_eql rfl rfl rfl) ?_)
      refine wl_end rfl ?_
      refine nm_sub [(3, _), (4, _), (5, _), (40, _)] ⟨rfl, rfl, rfl, rfl, trivial⟩ ?_
      refine nm_thn ?_
      refine ws_condN AlexanderOf_n29 AlexanderOf_n30 rfl rfl rfl rfl (fun hb40 => ?_) (fun hb40 => ?_)
      ·have hb40 := of_decide_eq_true hb40
       refine ws_region rfl ?_
       refine wlm 0 1 rfl rfl rfl rfl rfl rfl rfl ?_
       refine wlm 1 2 rfl rfl rfl rfl rfl rfl rfl ?_
       refine wlo 2 3 rfl rfl rfl (wo_run rfl rfl (run_sub rfl rfl rfl (by first | omega | (simp only [lens]; omega))) ?_)
       refine wl_eq 43 (.int .i64 ((d.crs.length - 1 : Nat) : Int)) rfl (int_eq (by omega)) ?_
       refine wlo 3 4 rfl rfl rfl (wo_sliceT (C := (cdV 43)) (d.crs.length - 1) rfl rfl rfl rfl rfl sl37 (by first | rfl | omega) (by first | omega | (simp only [lens]; omega)) hr3 ?_)
       intro A3 c3 hr4
       have hd2 := hd1.take_ (d.crs.length - 1)
       have hd3 := h31.take_ (d.crs.length - 1)
       refine wla 4 5 rfl rfl rfl rfl rfl rfl rfl ?_
       refine wl_end rfl ?_
       refine nm_sub [(4, _), (5, _)] ⟨rfl, rfl, trivial⟩ ?_
       refine nm_thn ?_
       refine ws_seqN AlexanderOf_n31 AlexanderOf_n32 rfl rfl rfl ?_
       have hT : (vs1.take (d.crs.length - 1)).length = (mny d - 1) := by rw [List.length_take]; omega
       have hU : ∀ q, q < (mny d - 1) → ga ((tblA d).take (d.crs.length - 1)) q = rowL d q := fun q hq => by rw [ga_take _ _ _ (by omega), tblA_ga d (by omega)]
       have hT2 := hd2.1
       have hT3 := hd3.1
       have hT4 : (ss1.take (d.crs.length - 1)).length = (mny d - 1) := by omega
       refine ws_region rfl ?_
       refine wla 0 1 rfl rfl rfl rfl rfl rfl rfl ?_
       refine wl_end rfl ?_
       refine nm_thn ?_
       refine ws_seqN AlexanderOf_n33 AlexanderOf_n34 rfl rfl rfl ?_
       refine ws_seqN AlexanderOf_n35 AlexanderOf_n36 rfl rfl rfl ?_
       refine ws_region rfl ?_
       refine wla 0 1 rfl rfl rfl rfl rfl rfl rfl ?_
       refine wl_end rfl ?_
       refine nm_thn ?_
       refine ws_blockN AlexanderOf_n37 0 rfl rfl rfl ?_
       have S7 := S6.nilrow (cdV 43); clear S6
       refine ws_loopE (fun mx_ ax_ wx_ => ∃ (i : Nat) (lv : List SlV) (ls : List (List SlV)) (lm : List (List (List Tm))) (vrl : Value) (M4 : Hp), M3.le M4 ∧ mx_ = (mny d - 1) - i ∧ Env 64 [(4, .int .i64 (mny d : Int)), (5, .slice A3 (vs1.take (d.crs.length - 1)).length c3), (6, vrl), (7, .int .i64 (i : Int))] ax_ ∧ SH wx_ M4 X [Rs.row (cdV 43) vrl lv] ∧ i ≤ (mny d - 1) ∧ lm = lessA d i ∧ Rd2 (cdV 22) M4 lv ls ∧ RdD cdTm M4 ls lm) rfl ?_ ?_
       ·intro ax_ hax_
        refine ⟨_, ⟨0, _, ([]), ([]), _, _, Hp.le_refl _, rfl, hax_.sub ⟨rfl, rfl, rfl, rfl, trivial⟩, S7.pick [0] [_] (by decide) ⟨rfl, trivial⟩, ?hq1f0, ?hq1f1, ?hq1f2, ?hq1f3⟩⟩
        case hq1f0 => omega
        case hq1f1 => rfl
        case hq1f2 => exact Rd2.nil_
        case hq1f3 => exact RdD.nil_
       ·rintro m1 a1 w6 ⟨i, lv, ls, lm, vrl, M4, hle4, rfl, he1, S8, hi, hlm, hl2, hl3⟩
        clear S7
        refine ws_in he1 (c := AlexanderOf_n38) rfl ?_
        clear he1 a1
        replace hdcrs := hdcrs.mono (Hp.un_mono hle4 S8.mx)
        replace hr2 := hr2.mono hle4
        replace hr3 := hr3.mono hle4
        replace hd1 := hd1.mono hle4
        replace h31 := h31.mono hle4
        replace hr4 := hr4.mono hle4
        replace hd2 := hd2.mono hle4
        replace hd3 := hd3.mono hle4
        have hl21 := hl2.1
        have hl31 := hl3.1
        have hlml : lm.length = i := by rw [hlm, lessA_len]
        have hUi := hU i
        have hUl : i < (mny d - 1) → (ga ((tblA d).take (d.crs.length - 1)) i).length = mny d := fun h => by rw [hU i h, rowL_len]
        refine ws_seqN AlexanderOf_n39 AlexanderOf_n40 rfl rfl rfl ?_
        refine ws_seqN AlexanderOf_n41 AlexanderOf_n42 rfl rfl rfl ?_
        refine ws_region rfl ?_
        refine wlm 0 1 rfl rfl rfl rfl rfl rfl rfl ?_
        refine wlm 1 2 rfl rfl rfl rfl rfl rfl rfl ?_
        refine wlo 2 3 rfl rfl rfl (wo_run rfl rfl (run_len rfl rfl rfl rfl rfl rfl Try.underlying37) ?_)
        refine wlo 3 4 rfl rfl rfl (wo_run rfl rfl (run_lss rfl rfl rfl) ?_)
        refine wl_end rfl ?_
        refine nm_sub [(4, _), (5, _), (6, _), (7, _), (48, _)] ⟨rfl, rfl, rfl, rfl, rfl, trivial⟩ ?_
        refine nm_thn ?_
        refine ws_condN AlexanderOf_n43 AlexanderOf_n44 rfl rfl rfl rfl (fun hb48 => ?_) (fun hb48 => ?_)
        ·have hb48 := of_decide_eq_true hb48
         refine ws_skip rfl ?_
         refine nm_sub [(4, _), (5, _), (6, _), (7, _)] ⟨rfl, rfl, rfl, rfl, trivial⟩ ?_
         refine nm_thn ?_
         refine ws_seqN AlexanderOf_n45 AlexanderOf_n46 rfl rfl rfl ?_
         refine ws_blockN AlexanderOf_n47 1 rfl rfl rfl ?_
         have hUl2 := hUl (by omega)
         refine ws_region rfl ?_
         refine wlm 0 1 rfl rfl rfl rfl rfl rfl rfl ?_
         refine wlm 1 2 rfl rfl rfl rfl rfl rfl rfl ?_
         refine wlm 2 3 rfl rfl rfl rfl rfl rfl rfl ?_
         refine wlo 3 4 rfl rfl rfl (wo_run rfl rfl (run_indexM (C := (cdV 43)) i rfl rfl rfl sl37 (by first | rfl | omega) hr4 (by first | omega | (simp only [lens]; omega))) ?_)
         obtain ⟨hn1, hr5⟩ := hd2.2 i (by first | omega | (simp only [lens]; omega))
         have rmhr5 : (ga (ss1.take (d.crs.length - 1)) i).length * 24 ≤ 140737488355328 := hr5.room
         have hW1 := hd3.2 i (by have := hd3.1; have := hd2.1; first | omega | (simp_all; omega))
         have hW1l := hW1.1
         refine wlo 4 5 rfl rfl rfl (wo_run rfl rfl (run_load1 rfl rfl Try.underlying43 rfl (hr4.cell S8.m (i := i) (by first | omega | (simp only [lens]; omega)) 0 rfl (congrArg (fun n => some (Value.slice _ n _)) hn1))) ?_)
         refine wlm 5 6 rfl rfl rfl rfl rfl rfl rfl ?_
         refine wlo 6 7 rfl rfl rfl (wo_run rfl rfl (run_sub rfl rfl rfl (by first | omega | (simp only [lens]; omega))) ?_)
         refine wl_eq 57 (.int .i64 ((mny d - 1 : Nat) : Int)) rfl (int_eq (by omega)) ?_
         refine wlo 7 8 rfl rfl rfl (wo_sliceT (C := (cdV 22)) (mny d - 1) rfl rfl rfl rfl rfl sl43 (by first | rfl | omega) (by first | omega | (simp only [lens]; omega)) hr5 ?_)
         intro A4 c4 hr6
         have hd4 := hW1.take_ (mny d - 1)
         refine wlo 8 9 rfl rfl rfl (wo_buildSlice1 (C := (cdV 43)) (l := [_]) rfl rfl rfl rfl sl37 rfl rfl rfl rfl S8 ?_)
         intro gb3 w7 S9; clear S8
         refine wlo 9 10 rfl rfl rfl (wo_append1 (C := (cdV 43)) (i := 1) (q := 0) (⟨A4, ((ga (ss1.take (d.crs.length - 1)) i).take (mny d - 1)).length, c4⟩ : SlV) rfl rfl rfl rfl rfl rfl rfl rfl sl37 S9 rfl rfl rfl (by show (_ + 1) * 24 ≤ _; first | omega | (simp only [lens]; omega)) ?_)
         intro vrl1 w8 S10; clear S9
         have S11 := S10.pick [1] [_] (by decide) ⟨rfl, trivial⟩; clear S10
         have hd5 := hl2.snoc (c := c4) hr6
         have hd6 := hl3.snoc hd4
         refine wla 10 11 rfl rfl rfl rfl rfl rfl rfl ?_
         refine wl_end rfl ?_
         refine nm_blk ?_
         refine nm_sub [(4, _), (5, _), (6, _), (7, _)] ⟨rfl, rfl, rfl, rfl, trivial⟩ ?_
         refine nm_thn ?_
         refine ws_region rfl ?_
         refine wlm 0 1 rfl rfl rfl rfl rfl rfl rfl ?_
         refine wlo 1 2 rfl rfl rfl (wo_run rfl rfl (run_add rfl rfl rfl (by first | omega | (simp only [lens]; omega))) ?_)
         refine wla 2 3 rfl rfl rfl rfl rfl rfl rfl ?_
         refine wl_end rfl ?_
         refine nm_lp ?_
         intro ax_ hax_
         refine ⟨_, ?hq2m, ⟨i + 1, _, (ls ++ [(ga (ss1.take (d.crs.length - 1)) i).take (mny d - 1)]), (lm ++ [(ga ((tblA d).take (d.crs.length - 1)) i).take (mny d - 1)]), _, _, (hle4), rfl, hax_.sub ⟨rfl, rfl, rfl, rfl, trivial⟩, S11.pick [0] [_] (by decide) ⟨rfl, trivial⟩, ?hq2f0, ?hq2f1, ?hq2f2, ?hq2f3⟩⟩
         case hq2f0 => omega
         case hq2f1 => (rw [lessA_succ, ← hlm, hUi (by omega)])
         case hq2f2 => exact hd5
         case hq2f3 => exact hd6
         case hq2m => omega
        ·have hb48 := of_decide_eq_false hb48
         refine ws_exit rfl rfl ?_
         refine nm_sub [(6, _)] ⟨rfl, trivial⟩ ?_
         refine nm_thn ?_
         refine ws_seqN AlexanderOf_n48 AlexanderOf_n49 rfl rfl rfl ?_
         obtain ⟨M5, hle5, S12, ⟨A5, c5, e1, hr7⟩⟩ := S8.pubrow (i := 0) (H' := [_]) rfl rfl (by show _ * 24 ≤ _; first | omega | (simp only [lens]; omega))
         clear S8; subst e1
         replace hdcrs := hdcrs.mono (Hp.un_mono hle5 S12.mx)
         replace hr2 := hr2.mono hle5
         replace hr3 := hr3.mono hle5
         replace hd1 := hd1.mono hle5
         replace h31 := h31.mono hle5
         replace hr4 := hr4.mono hle5
         replace hd2 := hd2.mono hle5
         replace hd3 := hd3.mono hle5
         replace hl2 := hl2.mono hle5
         replace hl3 := hl3.mono hle5
         obtain rfl : i = (mny d - 1) := by omega
         subst hlm
         refine ws_region rfl ?_
         refine wlm 0 1 rfl rfl rfl rfl rfl rfl rfl ?_
         refine wlo 1 2 rfl rfl rfl (wo_ct rfl rfl rfl rfl rfl rfl rfl cf32 S12 (RDet_t (mny d - 1) 1 (by omega) (by omega) _ _ _ (lessA d (mny d - 1)) _ _ _ _ hr7 hl2 hl3 (lessA_sq d) S12.lend) ?_)
         intro vw9 w9 M6 hle6 S13 hRw9; clear S12
         replace hdcrs := hdcrs.mono (Hp.un_mono hle6 S13.mx)
         replace hr2 := hr2.mono hle6
         replace hr3 := hr3.mono hle6
         replace hd1 := hd1.mono hle6
         replace h31 := h31.mono hle6
         replace hr4 := hr4.mono hle6
         replace hd2 := hd2.mono hle6
         replace hd3 := hd3.mono hle6
         replace hl2 := hl2.mono hle6
         replace hl3 := hl3.mono hle6
         replace hr7 := hr7.mono hle6
         obtain ⟨A6, c6, l1, rfl, hr8, hcan1, hbd1, hmk1⟩ := hRw9
         refine wlo 2 3 rfl rfl rfl (wo_ct rfl rfl rfl rfl rfl rfl rfl cf23 S13 (UnitOf_t l1 hr8 12 hcan1 (hbd1.mono (by omega)) (by omega) S13.lend) ?_)
         intro vw10 w10 M7 hle7 S14 hRw10; clear S13
         replace hdcrs := hdcrs.mono (Hp.un_mono hle7 S14.mx)
         replace hr2 := hr2.mono hle7
         replace hr3 := hr3.mono hle7
         replace hd1 := hd1.mono hle7
         replace h31 := h31.mono hle7
         replace hr4 := hr4.mono hle7
         replace hd2 := hd2.mono hle7
         replace hd3 := hd3.mono hle7
         replace hl2 := hl2.mono hle7
         replace hl3 := hl3.mono hle7
         replace hr7 := hr7.mono hle7
         replace hr8 := hr8.mono hle7
         obtain ⟨A7, c7, rfl, hr9⟩ := hRw10
         refine wla 3 4 rfl rfl rfl rfl rfl rfl rfl ?_
         refine wl_end rfl ?_
         refine nm_sub [(2, _)] ⟨rfl, trivial⟩ ?_
         refine nm_thn ?_
         refine ws_ret hC [_] rfl rfl ⟨rfl, trivial⟩ ?_
         refine ⟨_, rfl, _, ((((hle2.trans hle3).trans hle4).trans hle5).trans hle6).trans hle7, (S14.pick [] [] (by decide) trivial), ?_⟩
         refine ⟨_, _, _, rfl, hr9, ?_⟩
         unfold IsAlex
         rw [if_neg (by omega), if_neg (by omega)]
         exact ⟨_, hcan1, hbd1.mono (by omega), by rw [hmk1, lessA_det], rfl⟩
      ·have hb40 := of_decide_eq_false hb40
       refine ws_skip rfl ?_
       refine nm_sub [(4, _), (5, _)] ⟨rfl, rfl, trivial⟩ ?_
       refine nm_thn ?_
       refine ws_seqN AlexanderOf_n31 AlexanderOf_n32 rfl rfl rfl ?_
       have hT : (vs1).length = (mny d - 1) := by omega
       have hU : ∀ q, q < (mny d - 1) → ga ((tblA d)) q = rowL d q := fun q hq => by rw [tblA_ga d (by omega)]
       have hT2 := hd1.1
       have hT3 := h31.1
       refine ws_region rfl ?_
       refine wla 0 1 rfl rfl rfl rfl rfl rfl rfl ?_
       refine wl_end rfl ?_
       refine nm_thn ?_
       refine ws_seqN AlexanderOf_n33 AlexanderOf_n34 rfl rfl rfl ?_
       refine ws_seqN AlexanderOf_n35 AlexanderOf_n36 rfl rfl rfl ?_
       refine ws_region rfl ?_
       refine wla 0 1 rfl rfl rfl rfl rfl rfl rfl ?_
       refine wl_end rfl ?_
       refine nm_thn ?_
       refine ws_blockN AlexanderOf_n37 0 rfl rfl rfl ?_
       have S15 := S6.nilrow (cdV 43); clear S6
       refine ws_loopE (fun mx_ ax_ wx_ => ∃ (i : Nat) (lv : List SlV) (ls : List (List SlV)) (lm : List (List (List Tm))) (vrl : Value) (M8 : Hp), M3.le M8 ∧ mx_ = (mny d - 1) - i ∧ Env 64 [(4, .int .i64 (mny d : Int)), (5, .slice A2 vs1.length c2), (6, vrl), (7, .int .i64 (i : Int))] ax_ ∧ SH wx_ M8 X [Rs.row (cdV 43) vrl lv] ∧ i ≤ (mny d - 1) ∧ lm = lessA d i ∧ Rd2 (cdV 22) M8 lv ls ∧ RdD cdTm M8 ls lm) rfl ?_ ?_
       ·intro ax_ hax_
        refine ⟨_, ⟨0, _, ([]), ([]), _, _, Hp.le_refl _, rfl, hax_.sub ⟨rfl, rfl, rfl, rfl, trivial⟩, S15.pick [0] [_] (by decide) ⟨rfl, trivial⟩, ?hq3f0, ?hq3f1, ?hq3f2, ?hq3f3⟩⟩
        case hq3f0 => omega
        case hq3f1 => rfl
        case hq3f2 => exact Rd2.nil_
        case hq3f3 => exact RdD.nil_
       ·rintro m2 a2 w11 ⟨i, lv, ls, lm, vrl, M8, hle8, rfl, he2, S16, hi, hlm, hl2, hl3⟩
        clear S15
        refine ws_in he2 (c := AlexanderOf_n38) rfl ?_
        clear he2 a2
        replace hdcrs := hdcrs.mono (Hp.un_mono hle8 S16.mx)
        replace hr2 := hr2.mono hle8
        replace hr3 := hr3.mono hle8
        replace hd1 := hd1.mono hle8
        replace h31 := h31.mono hle8
        have hl21 := hl2.1
        have hl31 := hl3.1
        have hlml : lm.length = i := by rw [hlm, lessA_len]
        have hUi := hU i
        have hUl : i < (mny d - 1) → (ga ((tblA d)) i).length = mny d := fun h => by rw [hU i h, rowL_len]
        refine ws_seqN AlexanderOf_n39 AlexanderOf_n40 rfl rfl rfl ?_
        refine ws_seqN AlexanderOf_n41 AlexanderOf_n42 rfl rfl rfl ?_
        refine ws_region rfl ?_
        refine wlm 0 1 rfl rfl rfl rfl rfl rfl rfl ?_
        refine wlm 1 2 rfl rfl rfl rfl rfl rfl rfl ?_
        refine wlo 2 3 rfl rfl rfl (wo_run rfl rfl (run_len rfl rfl rfl rfl rfl rfl Try.underlying37) ?_)
        refine wlo 3 4 rfl rfl rfl (wo_run rfl rfl (run_lss rfl rfl rfl) ?_)
        refine wl_end rfl ?_
        refine nm_sub [(4, _), (5, _), (6, _), (7, _), (48, _)] ⟨rfl, rfl, rfl, rfl, rfl, trivial⟩ ?_
        refine nm_thn ?_
        refine ws_condN AlexanderOf_n43 AlexanderOf_n44 rfl rfl rfl rfl (fun hb48 => ?_) (fun hb48 => ?_)
        ·have hb48 := of_decide_eq_true hb48
         refine ws_skip rfl ?_
         refine nm_sub [(4, _), (5, _), (6, _), (7, _)] ⟨rfl, rfl, rfl, rfl, trivial⟩ ?_
         refine nm_thn ?_
         refine ws_seqN AlexanderOf_n45 AlexanderOf_n46 rfl rfl rfl ?_
         refine ws_blockN AlexanderOf_n47 1 rfl rfl rfl ?_
         have hUl2 := hUl (by omega)
         refine ws_region rfl ?_
         refine wlm 0 1 rfl rfl rfl rfl rfl rfl rfl ?_
         refine wlm 1 2 rfl rfl rfl rfl rfl rfl rfl ?_
         refine wlm 2 3 rfl rfl rfl rfl rfl rfl rfl ?_
         refine wlo 3 4 rfl rfl rfl (wo_run rfl rfl (run_indexM (C := (cdV 43)) i rfl rfl rfl sl37 (by first | rfl | omega) hr3 (by first | omega | (simp only [lens]; omega))) ?_)
         obtain ⟨hn2, hr10⟩ := hd1.2 i (by first | omega | (simp only [lens]; omega))
         have rmhr10 : (ga ss1 i).length * 24 ≤ 140737488355328 := hr10.room
         have hW2 := h31.2 i (by have := h31.1; have := hd1.1; first | omega | (simp_all; omega))
         have hW2l := hW2.1
         refine wlo 4 5 rfl rfl rfl (wo_run rfl rfl (run_load1 rfl rfl Try.underlying43 rfl (hr3.cell S16.m (i := i) (by first | omega | (simp only [lens]; omega)) 0 rfl (congrArg (fun n => some (Value.slice _ n _)) hn2))) ?_)
         refine wlm 5 6 rfl rfl rfl rfl rfl rfl rfl ?_
         refine wlo 6 7 rfl rfl rfl (wo_run rfl rfl (run_sub rfl rfl rfl (by first | omega | (simp only [lens]; omega))) ?_)
         refine wl_eq 57 (.int .i64 ((mny d - 1 : Nat) : Int)) rfl (int_eq (by omega)) ?_
         refine wlo 7 8 rfl rfl rfl (wo_sliceT (C := (cdV 22)) (mny d - 1) rfl rfl rfl rfl rfl sl43 (by first | rfl | omega) (by first | omega | (simp only [lens]; omega)) hr10 ?_)
         intro A8 c8 hr11
         have hd7 := hW2.take_ (mny d - 1)
         refine wlo 8 9 rfl rfl rfl (wo_buildSlice1 (C := (cdV 43)) (l := [_]) rfl rfl rfl rfl sl37 rfl rfl rfl rfl S16 ?_)
         intro gb4 w12 S17; clear S16
         refine wlo 9 10 rfl rfl rfl (wo_append1 (C := (cdV 43)) (i := 1) (q := 0) (⟨A8, ((ga ss1 i).take (mny d - 1)).length, c8⟩ : SlV) rfl rfl rfl rfl rfl rfl rfl rfl sl37 S17 rfl rfl rfl (by show (_ + 1) * 24 ≤ _; first | omega | (simp only [lens]; omega)) ?_)
         intro vrl2 w13 S18; clear S17
         have S19 := S18.pick [1] [_] (by decide) ⟨rfl, trivial⟩; clear S18
         have hd8 := hl2.snoc (c := c8) hr11
         have hd9 := hl3.snoc hd7
         refine wla 10 11 rfl rfl rfl rfl rfl rfl rfl ?_
         refine wl_end rfl ?_
         refine nm_blk ?_
         refine nm_sub [(4, _), (5, _), (6, _), (7, _)] ⟨rfl, rfl, rfl, rfl, trivial⟩ ?_
         refine nm_thn ?_
         refine ws_region rfl ?_
         refine wlm 0 1 rfl rfl rfl rfl rfl rfl rfl ?_
         refine wlo 1 2 rfl rfl rfl (wo_run rfl rfl (run_add rfl rfl rfl (by first | omega | (simp only [lens]; omega))) ?_)
         refine wla 2 3 rfl rfl rfl rfl rfl rfl rfl ?_
         refine wl_end rfl ?_
         refine nm_lp ?_
         intro ax_ hax_
         refine ⟨_, ?hq4m, ⟨i + 1, _, (ls ++ [(ga ss1 i).take (mny d - 1)]), (lm ++ [(ga (tblA d) i).take (mny d - 1)]), _, _, (hle8), rfl, hax_.sub ⟨rfl, rfl, rfl, rfl, trivial⟩, S19.pick [0] [_] (by decide) ⟨rfl, trivial⟩, ?hq4f0, ?hq4f1, ?hq4f2, ?hq4f3⟩⟩
         case hq4f0 => omega
         case hq4f1 => (rw [lessA_succ, ← hlm, hUi (by omega)])
         case hq4f2 => exact hd8
         case hq4f3 => exact hd9
         case hq4m => omega
        ·have hb48 := of_decide_eq_false hb48
         refine ws_exit rfl rfl ?_
         refine nm_sub [(6, _)] ⟨rfl, trivial⟩ ?_
         refine nm_thn ?_
         refine ws_seqN AlexanderOf_n48 AlexanderOf_n49 rfl rfl rfl ?_
         obtain ⟨M9, hle9, S20, ⟨A9, c9, e2, hr12⟩⟩ := S16.pubrow (i := 0) (H' := [_]) rfl rfl (by show _ * 24 ≤ _; first | omega | (simp only [lens]; omega))
         clear S16; subst e2
         replace hdcrs := hdcrs.mono (Hp.un_mono hle9 S20.mx)
         replace hr2 := hr2.mono hle9
         replace hr3 := hr3.mono hle9
         replace hd1 := hd1.mono hle9
         replace h31 := h31.mono hle9
         replace hl2 := hl2.mono hle9
         replace hl3 := hl3.mono hle9
         obtain rfl : i = (mny d - 1) := by omega
         subst hlm
         refine ws_region rfl ?_
         refine wlm 0 1 rfl rfl rfl rfl rfl rfl rfl ?_
         refine wlo 1 2 rfl rfl rfl (wo_ct rfl rfl rfl rfl rfl rfl rfl cf32 S20 (RDet_t (mny d - 1) 1 (by omega) (by omega) _ _ _ (lessA d (mny d - 1)) _ _ _ _ hr12 hl2 hl3 (lessA_sq d) S20.lend) ?_)
         intro vw14 w14 M10 hle10 S21 hRw14; clear S20
         replace hdcrs := hdcrs.mono (Hp.un_mono hle10 S21.mx)
         replace hr2 := hr2.mono hle10
         replace hr3 := hr3.mono hle10
         replace hd1 := hd1.mono hle10
         replace h31 := h31.mono hle10
         replace hl2 := hl2.mono hle10
         replace hl3 := hl3.mono hle10
         replace hr12 := hr12.mono hle10
         obtain ⟨A10, c10, l2, rfl, hr13, hcan2, hbd2, hmk2⟩ := hRw14
         refine wlo 2 3 rfl rfl rfl (wo_ct rfl rfl rfl rfl rfl rfl rfl cf23 S21 (UnitOf_t l2 hr13 12 hcan2 (hbd2.mono (by omega)) (by omega) S21.lend) ?_)
         intro vw15 w15 M11 hle11 S22 hRw15; clear S21
         replace hdcrs := hdcrs.mono (Hp.un_mono hle11 S22.mx)
         replace hr2 := hr2.mono hle11
         replace hr3 := hr3.mono hle11
         replace hd1 := hd1.mono hle11
         replace h31 := h31.mono hle11
         replace hl2 := hl2.mono hle11
         replace hl3 := hl3.mono hle11
         replace hr12 := hr12.mono hle11
         replace hr13 := hr13.mono hle11
         obtain ⟨A11, c11, rfl, hr14⟩ := hRw15
         refine wla 3 4 rfl rfl rfl rfl rfl rfl rfl ?_
         refine wl_end rfl ?_
         refine nm_sub [(2, _)] ⟨rfl, trivial⟩ ?_
         refine nm_thn ?_
         refine ws_ret hC [_] rfl rfl ⟨rfl, trivial⟩ ?_
         refine ⟨_, rfl, _, ((((hle2.trans hle3).trans hle8).trans hle9).trans hle10).trans hle11, (S22.pick [] [] (by decide) trivial), ?_⟩
         refine ⟨_, _, _, rfl, hr14, ?_⟩
         unfold IsAlex
         rw [if_neg (by omega), if_neg (by omega)]
         exact ⟨_, hcan2, hbd2.mono (by omega), by rw [hmk2, lessA_det], rfl⟩
 ·have hg13 := of_decide_eq_false hg13
  refine wl_no (k := 3) (k' := 4) (d := 14) rfl rfl ⟨_, _, _, rfl, rfl, rfl, rfl⟩ rfl rfl ?_
  refine wl_no (k := 4) (k' := 5) (d := 15) rfl rfl ⟨_, _, _, rfl, rfl, rfl, rfl⟩ rfl rfl ?_
  refine wl_no (k := 5) (k' := 6) (d := 16) rfl rfl ⟨_, _, _, rfl, rfl, rfl, rfl⟩ rfl rfl ?_
  refine wlo 6 7 rfl rfl rfl (wo_run rfl rfl (run_pickF rfl rfl rfl) ?_)
  refine wl_end rfl ?_
  refine nm_sub [(1, _), (3, _), (17, _)] ⟨rfl, rfl, rfl, trivial⟩ ?_
  refine nm_thn ?_
  refine ws_condFN AlexanderOf_n10 rfl rfl rfl ?_
  refine ws_skip rfl ?_
  refine nm_sub [(1, _), (3, _)] ⟨rfl, rfl, trivial⟩ ?_
  refine nm_thn ?_
  refine ws_seqN AlexanderOf_n13 AlexanderOf_n14 rfl rfl rfl ?_
  refine ws_region rfl ?_
  refine wlo 0 1 rfl rfl rfl (wo_run rfl rfl (run_loadN (us := [_, _]) rfl rfl Try.underlying51 rfl sz51 (S1.boxcs (i := 0) rfl ⟨rfl, rfl, trivial⟩)) ?_)
  refine wlo 1 2 rfl rfl rfl (wo_ct rfl rfl rfl rfl rfl rfl rfl cf79 S1 (OversOf_t d (hdcrs.mono S1.un_XH) ((by omega)) (hab) S1.lend) ?_)
  intro vw16 w16 M12 hle12 S23 hRw16; clear S1
  replace hdcrs := hdcrs.mono (Hp.un_mono hle12 S23.mx)
  obtain ⟨A12, c12, rfl, hr15⟩ := hRw16
  have hovl : (ovTail d).length = 2 * d.crs.length := by simp [ovTail]
  refine wlo 2 3 rfl rfl rfl (wo_cq rfl rfl rfl rfl rfl rfl rfl cf80 S23 (mostOf_q (ovTail d) (hr15.mono (Hp.le_un _ _)) ((ovTail_bd hab (by omega))) S23.lend) ?_)
  rintro _ w17 S24 rfl; clear S23
  refine wla 3 4 rfl rfl rfl rfl rfl rfl rfl ?_
  refine wl_end rfl ?_
  refine nm_sub [(1, _), (3, _), (4, _)] ⟨rfl, rfl, rfl, trivial⟩ ?_
  refine nm_thn ?_
  refine ws_seqN AlexanderOf_n15 AlexanderOf_n16 rfl rfl rfl ?_
  refine ws_seqN AlexanderOf_n17 AlexanderOf_n18 rfl rfl rfl ?_
  have hmb := rk_bd d (2 * d.crs.length + 1)
  have hmn : mostN (ovTail d) (ovTail d).length = (mny d : Int) := by rw [hovl, most_ov hab _ (Nat.le_refl _)]; unfold mny; omega
  have hmge := mny_ge d
  have hmn2 : mny d ≤ 21 := by unfold mny; omega
  refine ws_eq 4 (.int .i64 (mny d : Int)) rfl (int_eq hmn) ?_
  refine ws_region rfl ?_
  refine wlm 0 1 rfl rfl rfl rfl rfl rfl rfl ?_
  refine wlo 1 2 rfl rfl rfl (wo_run rfl rfl (run_eql rfl rfl rfl) ?_)
  refine wlm 2 3 rfl rfl rfl rfl rfl rfl rfl ?_
  refine wl_split (t := 25) rfl (fun hg25 => ?_) (fun hg25 => ?_)
  ·have hg25 := of_decide_eq_true hg25
   refine wl_no (k := 3) (k' := 4) (d := 26) rfl rfl ⟨_, _, _, rfl, rfl, rfl, rfl⟩ rfl rfl ?_
   refine wl_no (k := 4) (k' := 5) (d := 27) rfl rfl ⟨_, _, _, rfl, rfl, rfl, rfl⟩ rfl rfl ?_
   refine wl_no (k := 5) (k' := 6) (d := 28) rfl rfl ⟨_, _, _, rfl, rfl, rfl, rfl⟩ rfl rfl ?_
   refine wlo 6 7 rfl rfl rfl (wo_run rfl rfl (run_pickT rfl rfl rfl) ?_)
   refine wlm 7 8 rfl rfl rfl rfl rfl rfl rfl ?_
   refine wl_no (k := 8) (k' := 9) (d := 31) rfl rfl ⟨_, _, _, rfl, rfl, rfl, rfl⟩ rfl rfl ?_
   refine wl_no (k := 9) (k' := 10) (d := 32) rfl rfl ⟨_, _, _, rfl, rfl, rfl, rfl⟩ rfl rfl ?_
   refine wl_no (k := 10) (k' := 11) (d := 33) rfl rfl ⟨_, _, _, rfl, rfl, rfl, rfl⟩ rfl rfl ?_
   refine wl_no (k := 11) (k' := 12) (d := 34) rfl rfl ⟨_, _, _, rfl, rfl, rfl, rfl⟩ rfl rfl ?_
   refine wlo 12 13 rfl rfl rfl (wo_run rfl rfl (run_pickT rfl rfl rfl) ?_)
   refine wl_end rfl ?_
   refine nm_sub [(1, _), (3, _), (4, _), (35, _)] ⟨rfl, rfl, rfl, rfl, trivial⟩ ?_
   refine nm_thn ?_
   refine ws_condTN AlexanderOf_n19 rfl rfl rfl ?_
   refine ws_seqN AlexanderOf_n21 AlexanderOf_n22 rfl rfl rfl ?_
   refine ws_region rfl ?_
   refine wla 0 1 rfl rfl rfl rfl rfl rfl rfl ?_
   refine wl_end rfl ?_
   refine nm_sub [(2, _)] ⟨rfl, trivial⟩ ?_
   refine nm_thn ?_
   refine ws_ret hC [_] rfl rfl ⟨rfl, trivial⟩ ?_
   refine ⟨_, rfl, _, hle12, (S24.pick [] [] (by decide) trivial), ?_⟩
   exact ⟨none, 0, [], rfl, RdA.nil_, by unfold IsAlex; rw [if_neg (by omega), if_pos (by omega)]⟩
  ·have hg25 := of_decide_eq_false hg25
   refine wl_opG (k := 3) (k' := 4) rfl rfl ⟨_, _, _, rfl, rfl, rfl, rfl⟩ rfl (wo_run rfl rfl (run_fieldAddr rfl rfl Try.underlying51 rfl (ce3) (nf3)) ?_)
   refine wl_opG (k := 4) (k' := 5) rfl rfl ⟨_, _, _, rfl, rfl, rfl, rfl⟩ rfl (wo_run rfl rfl (run_load1 rfl rfl Try.underlying3 rfl (S24.boxc (i := 0) rfl rfl)) ?_)
   refine wl_opG (k := 5) (k' := 6) rfl rfl ⟨_, _, _, rfl, rfl, rfl, rfl⟩ rfl (wo_run rfl rfl (run_gtr rfl rfl rfl) ?_)
   refine wlo 6 7 rfl rfl rfl (wo_run rfl rfl (run_pickF rfl rfl rfl) ?_)
   refine wlm 7 8 rfl rfl rfl rfl rfl rfl rfl ?_
   refine wl_split (t := 30) rfl (fun hg30 => ?_) (fun hg30 => ?_)
   ·have hg30 := of_decide_eq_true hg30
    refine wl_no (k := 8) (k' := 9) (d := 31) rfl rfl ⟨_, _, _, rfl, rfl, rfl, rfl⟩ rfl rfl ?_
    refine wl_no (k := 9) (k' := 10) (d := 32) rfl rfl ⟨_, _, _, rfl, rfl, rfl, rfl⟩ rfl rfl ?_
    refine wl_no (k := 10) (k' := 11) (d := 33) rfl rfl ⟨_, _, _, rfl, rfl, rfl, rfl⟩ rfl rfl ?_
    refine wl_no (k := 11) (k' := 12) (d := 34) rfl rfl ⟨_, _, _, rfl, rfl, rfl, rfl⟩ rfl rfl ?_
    refine wlo 12 13 rfl rfl rfl (wo_run rfl rfl (run_pickT rfl rfl rfl) ?_)
    refine wl_end rfl ?_
    refine nm_sub [(1, _), (3, _), (4, _), (35, _)] ⟨rfl, rfl, rfl, rfl, trivial⟩ ?_
    refine nm_thn ?_
    refine ws_condTN AlexanderOf_n19 rfl rfl rfl ?_
    refine ws_seqN AlexanderOf_n21 AlexanderOf_n22 rfl rfl rfl ?_
    refine ws_region rfl ?_
    refine wla 0 1 rfl rfl rfl rfl rfl rfl rfl ?_
    refine wl_end rfl ?_
    refine nm_sub [(2, _)] ⟨rfl, trivial⟩ ?_
    refine nm_thn ?_
    refine ws_ret hC [_] rfl rfl ⟨rfl, trivial⟩ ?_
    refine ⟨_, rfl, _, hle12, (S24.pick [] [] (by decide) trivial), ?_⟩
    exact ⟨none, 0, [], rfl, RdA.nil_, by unfold IsAlex; rw [if_neg (by omega), if_pos (by omega)]⟩
   ·have hg30 := of_decide_eq_false hg30
    refine wl_opG (k := 8) (k' := 9) rfl rfl ⟨_, _, _, rfl, rfl, rfl, rfl⟩ rfl (wo_run rfl rfl (run_move rfl rfl) ?_)
    refine wl_opG (k := 9) (k' := 10) rfl rfl ⟨_, _, _, rfl, rfl, rfl, rfl⟩ rfl (wo_run rfl rfl (run_move rfl rfl) ?_)
    refine wl_opG (k := 10) (k' := 11) rfl rfl ⟨_, _, _, rfl, rfl, rfl, rfl⟩ rfl (wo_run rfl rfl (run_add rfl rfl rfl (by first | omega | (simp only [lens]; omega))) ?_)
    refine wl_opG (k := 11) (k' := 12) rfl rfl ⟨_, _, _, rfl, rfl, rfl, rfl⟩ rfl (wo_run rfl rfl (run_gtr rfl rfl rfl) ?_)
    refine wlo 12 13 rfl rfl rfl (wo_run rfl rfl (run_pickF rfl rfl rfl) ?_)
    refine wl_end rfl ?_
    refine nm_sub [(1, _), (3, _), (4, _), (35, _)] ⟨rfl, rfl, rfl, rfl, trivial⟩ ?_
    refine nm_thn ?_
    refine ws_condN AlexanderOf_n19 AlexanderOf_n20 rfl rfl rfl rfl (fun hb35 => ?_) (fun hb35 => ?_)
    ·have hb35 := of_decide_eq_true hb35
     refine ws_seqN AlexanderOf_n21 AlexanderOf_n22 rfl rfl rfl ?_
     refine ws_region rfl ?_
     refine wla 0 1 rfl rfl rfl rfl rfl rfl rfl ?_
     refine wl_end rfl ?_
     refine nm_sub [(2, _)] ⟨rfl, trivial⟩ ?_
     refine nm_thn ?_
     refine ws_ret hC [_] rfl rfl ⟨rfl, trivial⟩ ?_
     refine ⟨_, rfl, _, hle12, (S24.pick [] [] (by decide) trivial), ?_⟩
     exact ⟨none, 0, [], rfl, RdA.nil_, by unfold IsAlex; rw [if_neg (by omega), if_pos (by omega)]⟩
    ·have hb35 := of_decide_eq_false hb35
     refine ws_skip rfl ?_
     refine nm_sub [(1, _), (3, _), (4, _)] ⟨rfl, rfl, rfl, trivial⟩ ?_
     refine nm_thn ?_
     refine ws_seqN AlexanderOf_n23 AlexanderOf_n24 rfl rfl rfl ?_
     refine ws_region rfl ?_
     refine wlo 0 1 rfl rfl rfl (wo_run rfl rfl (run_loadN (us := [_, _]) rfl rfl Try.underlying51 rfl sz51 (S24.boxcs (i := 0) rfl ⟨rfl, rfl, trivial⟩)) ?_)
     refine wlo 1 2 rfl rfl rfl (wo_ct rfl rfl rfl rfl rfl rfl rfl cf36 S24 (TableOf_t d (hdcrs.mono S24.un_XH) ((by omega)) (hab) S24.lend) ?_)
     intro vw18 w18 M13 hle13 S25 hRw18; clear S24
     replace hdcrs := hdcrs.mono (Hp.un_mono hle13 S25.mx)
     replace hr15 := hr15.mono hle13
     obtain ⟨A13, c13, vs2, ss2, rfl, hr16, hd10, h32⟩ := hRw18
     have hlhd10 := hd10.1
     have hlh32 := h32.1
     have htl := tblA_len d
     refine wla 2 3 rfl rfl rfl rfl rfl rfl rfl ?_
     refine wl_end rfl ?_
     refine nm_sub [(3, _), (4, _), (5, _)] ⟨rfl, rfl, rfl, trivial⟩ ?_
     refine nm_thn ?_
     refine ws_seqN AlexanderOf_n25 AlexanderOf_n26 rfl rfl rfl ?_
     refine ws_seqN AlexanderOf_n27 AlexanderOf_n28 rfl rfl rfl ?_
     refine ws_region rfl ?_
     refine wlm 0 1 rfl rfl rfl rfl rfl rfl rfl ?_
     refine wlm 1 2 rfl rfl rfl rfl rfl rfl rfl ?_
     refine wlo 2 3 rfl rfl rfl (wo_run rfl rfl (run_eql rfl rfl rfl) ?_)
     refine wl_end rfl ?_
     refine nm_sub [(3, _), (4, _), (5, _), (40, _)] ⟨rfl, rfl, rfl, rfl, trivial⟩ ?_
     refine nm_thn ?_
     refine ws_condN AlexanderOf_n29 AlexanderOf_n30 rfl rfl rfl rfl (fun hb40 => ?_) (fun hb40 => ?_)
     ·have hb40 := of_decide_eq_true hb40
      refine ws_region rfl ?_
      refine wlm 0 1 rfl rfl rfl rfl rfl rfl rfl ?_
      refine wlm 1 2 rfl rfl rfl rfl rfl rfl rfl ?_
      refine wlo 2 3 rfl rfl rfl (wo_run rfl rfl (run_sub rfl rfl rfl (by first | omega | (simp only [lens]; omega))) ?_)
      refine wl_eq 43 (.int .i64 ((d.crs.length - 1 : Nat) : Int)) rfl (int_eq (by omega)) ?_
      refine wlo 3 4 rfl rfl rfl (wo_sliceT (C := (cdV 43)) (d.crs.length - 1) rfl rfl rfl rfl rfl sl37 (by first | rfl | omega) (by first | omega | (simp only [lens]; omega)) hr16 ?_)
      intro A14 c14 hr17
      have hd11 := hd10.take_ (d.crs.length - 1)
      have hd12 := h32.take_ (d.crs.length - 1)
      refine wla 4 5 rfl rfl rfl rfl rfl rfl rfl ?_
      refine wl_end rfl ?_
      refine nm_sub [(4, _), (5, _)] ⟨rfl, rfl, trivial⟩ ?_
      refine nm_thn ?_
      refine ws_seqN AlexanderOf_n31 AlexanderOf_n32 rfl rfl rfl ?_
      have hT : (vs2.take (d.crs.length - 1)).length = (mny d - 1) := by rw [List.length_take]; omega
      have hU : ∀ q, q < (mny d - 1) → ga ((tblA d).take (d.crs.length - 1)) q = rowL d q := fun q hq => by rw [ga_take _ _ _ (by omega), tblA_ga d (by omega)]
      have hT2 := hd11.1
      have hT3 := hd12.1
      have hT4 : (ss2.take (d.crs.length - 1)).length = (mny d - 1) := by omega
      refine ws_region rfl ?_
      refine wla 0 1 rfl rfl rfl rfl rfl rfl rfl ?_
      refine wl_end rfl ?_
      refine nm_thn ?_
      refine ws_seqN AlexanderOf_n33 AlexanderOf_n34 rfl rfl rfl ?_
      refine ws_seqN AlexanderOf_n35 AlexanderOf_n36 rfl rfl rfl ?_
      refine ws_region rfl ?_
      refine wla 0 1 rfl rfl rfl rfl rfl rfl rfl ?_
      refine wl_end rfl ?_
      refine nm_thn ?_
      refine ws_blockN AlexanderOf_n37 0 rfl rfl rfl ?_
      have S26 := S25.nilrow (cdV 43); clear S25
      refine ws_loopE (fun mx_ ax_ wx_ => ∃ (i : Nat) (lv : List SlV) (ls : List (List SlV)) (lm : List (List (List Tm))) (vrl : Value) (M14 : Hp), M13.le M14 ∧ mx_ = (mny d - 1) - i ∧ Env 64 [(4, .int .i64 (mny d : Int)), (5, .slice A14 (vs2.take (d.crs.length - 1)).length c14), (6, vrl), (7, .int .i64 (i : Int))] ax_ ∧ SH wx_ M14 X [Rs.row (cdV 43) vrl lv] ∧ i ≤ (mny d - 1) ∧ lm = lessA d i ∧ Rd2 (cdV 22) M14 lv ls ∧ RdD cdTm M14 ls lm) rfl ?_ ?_
      ·intro ax_ hax_
       refine ⟨_, ⟨0, _, ([]), ([]), _, _, Hp.le_refl _, rfl, hax_.sub ⟨rfl, rfl, rfl, rfl, trivial⟩, S26.pick [0] [_] (by decide) ⟨rfl, trivial⟩, ?hq5f0, ?hq5f1, ?hq5f2, ?hq5f3⟩⟩
       case hq5f0 => omega
       case hq5f1 => rfl
       case hq5f2 => exact Rd2.nil_
       case hq5f3 => exact RdD.nil_
      ·rintro m3 a3 w19 ⟨i, lv, ls, lm, vrl, M14, hle14, rfl, he3, S27, hi, hlm, hl2, hl3⟩
       clear S26
       refine ws_in he3 (c := AlexanderOf_n38) rfl ?_
       clear he3 a3
       replace hdcrs := hdcrs.mono (Hp.un_mono hle14 S27.mx)
       replace hr15 := hr15.mono hle14
       replace hr16 := hr16.mono hle14
       replace hd10 := hd10.mono hle14
       replace h32 := h32.mono hle14
       replace hr17 := hr17.mono hle14
       replace hd11 := hd11.mono hle14
       replace hd12 := hd12.mono hle14
       have hl21 := hl2.1
       have hl31 := hl3.1
       have hlml : lm.length = i := by rw [hlm, lessA_len]
       have hUi := hU i
       have hUl : i < (mny d - 1) → (ga ((tblA d).take (d.crs.length - 1)) i).length = mny d := fun h => by rw [hU i h, rowL_len]
       refine ws_seqN AlexanderOf_n39 AlexanderOf_n40 rfl rfl rfl ?_
       refine ws_seqN AlexanderOf_n41 AlexanderOf_n42 rfl rfl rfl ?_
       refine ws_region rfl ?_
       refine wlm 0 1 rfl rfl rfl rfl rfl rfl rfl ?_
       refine wlm 1 2 rfl rfl rfl rfl rfl rfl rfl ?_
       refine wlo 2 3 rfl rfl rfl (wo_run rfl rfl (run_len rfl rfl rfl rfl rfl rfl Try.underlying37) ?_)
       refine wlo 3 4 rfl rfl rfl (wo_run rfl rfl (run_lss rfl rfl rfl) ?_)
       refine wl_end rfl ?_
       refine nm_sub [(4, _), (5, _), (6, _), (7, _), (48, _)] ⟨rfl, rfl, rfl, rfl, rfl, trivial⟩ ?_
       refine nm_thn ?_
       refine ws_condN AlexanderOf_n43 AlexanderOf_n44 rfl rfl rfl rfl (fun hb48 => ?_) (fun hb48 => ?_)
       ·have hb48 := of_decide_eq_true hb48
        refine ws_skip rfl ?_
        refine nm_sub [(4, _), (5, _), (6, _), (7, _)] ⟨rfl, rfl, rfl, rfl, trivial⟩ ?_
        refine nm_thn ?_
        refine ws_seqN AlexanderOf_n45 AlexanderOf_n46 rfl rfl rfl ?_
        refine ws_blockN AlexanderOf_n47 1 rfl rfl rfl ?_
        have hUl2 := hUl (by omega)
        refine ws_region rfl ?_
        refine wlm 0 1 rfl rfl rfl rfl rfl rfl rfl ?_
        refine wlm 1 2 rfl rfl rfl rfl rfl rfl rfl ?_
        refine wlm 2 3 rfl rfl rfl rfl rfl rfl rfl ?_
        refine wlo 3 4 rfl rfl rfl (wo_run rfl rfl (run_indexM (C := (cdV 43)) i rfl rfl rfl sl37 (by first | rfl | omega) hr17 (by first | omega | (simp only [lens]; omega))) ?_)
        obtain ⟨hn3, hr18⟩ := hd11.2 i (by first | omega | (simp only [lens]; omega))
        have rmhr18 : (ga (ss2.take (d.crs.length - 1)) i).length * 24 ≤ 140737488355328 := hr18.room
        have hW3 := hd12.2 i (by have := hd12.1; have := hd11.1; first | omega | (simp_all; omega))
        have hW3l := hW3.1
        refine wlo 4 5 rfl rfl rfl (wo_run rfl rfl (run_load1 rfl rfl Try.underlying43 rfl (hr17.cell S27.m (i := i) (by first | omega | (simp only [lens]; omega)) 0 rfl (congrArg (fun n => some (Value.slice _ n _)) hn3))) ?_)
        refine wlm 5 6 rfl rfl rfl rfl rfl rfl rfl ?_
        refine wlo 6 7 rfl rfl rfl (wo_run rfl rfl (run_sub rfl rfl rfl (by first | omega | (simp only [lens]; omega))) ?_)
        refine wl_eq 57 (.int .i64 ((mny d - 1 : Nat) : Int)) rfl (int_eq (by omega)) ?_
        refine wlo 7 8 rfl rfl rfl (wo_sliceT (C := (cdV 22)) (mny d - 1) rfl rfl rfl rfl rfl sl43 (by first | rfl | omega) (by first | omega | (simp only [lens]; omega)) hr18 ?_)
        intro A15 c15 hr19
        have hd13 := hW3.take_ (mny d - 1)
        refine wlo 8 9 rfl rfl rfl (wo_buildSlice1 (C := (cdV 43)) (l := [_]) rfl rfl rfl rfl sl37 rfl rfl rfl rfl S27 ?_)
        intro gb5 w20 S28; clear S27
        refine wlo 9 10 rfl rfl rfl (wo_append1 (C := (cdV 43)) (i := 1) (q := 0) (⟨A15, ((ga (ss2.take (d.crs.length - 1)) i).take (mny d - 1)).length, c15⟩ : SlV) rfl rfl rfl rfl rfl rfl rfl rfl sl37 S28 rfl rfl rfl (by show (_ + 1) * 24 ≤ _; first | omega | (simp only [lens]; omega)) ?_)
        intro vrl3 w21 S29; clear S28
        have S30 := S29.pick [1] [_] (by decide) ⟨rfl, trivial⟩; clear S29
        have hd14 := hl2.snoc (c := c15) hr19
        have hd15 := hl3.snoc hd13
        refine wla 10 11 rfl rfl rfl rfl rfl rfl rfl ?_
        refine wl_end rfl ?_
        refine nm_blk ?_
        refine nm_sub [(4, _), (5, _), (6, _), (7, _)] ⟨rfl, rfl, rfl, rfl, trivial⟩ ?_
        refine nm_thn ?_
        refine ws_region rfl ?_
        refine wlm 0 1 rfl rfl rfl rfl rfl rfl rfl ?_
        refine wlo 1 2 rfl rfl rfl (wo_run rfl rfl (run_add rfl rfl rfl (by first | omega | (simp only [lens]; omega))) ?_)
        refine wla 2 3 rfl rfl rfl rfl rfl rfl rfl ?_
        refine wl_end rfl ?_
        refine nm_lp ?_
        intro ax_ hax_
        refine ⟨_, ?hq6m, ⟨i + 1, _, (ls ++ [(ga (ss2.take (d.crs.length - 1)) i).take (mny d - 1)]), (lm ++ [(ga ((tblA d).take (d.crs.length - 1)) i).take (mny d - 1)]), _, _, (hle14), rfl, hax_.sub ⟨rfl, rfl, rfl, rfl, trivial⟩, S30.pick [0] [_] (by decide) ⟨rfl, trivial⟩, ?hq6f0, ?hq6f1, ?hq6f2, ?hq6f3⟩⟩
        case hq6f0 => omega
        case hq6f1 => (rw [lessA_succ, ← hlm, hUi (by omega)])
        case hq6f2 => exact hd14
        case hq6f3 => exact hd15
        case hq6m => omega
       ·have hb48 := of_decide_eq_false hb48
        refine ws_exit rfl rfl ?_
        refine nm_sub [(6, _)] ⟨rfl, trivial⟩ ?_
        refine nm_thn ?_
        refine ws_seqN AlexanderOf_n48 AlexanderOf_n49 rfl rfl rfl ?_
        obtain ⟨M15, hle15, S31, ⟨A16, c16, e3, hr20⟩⟩ := S27.pubrow (i := 0) (H' := [_]) rfl rfl (by show _ * 24 ≤ _; first | omega | (simp only [lens]; omega))
        clear S27; subst e3
        replace hdcrs := hdcrs.mono (Hp.un_mono hle15 S31.mx)
        replace hr15 := hr15.mono hle15
        replace hr16 := hr16.mono hle15
        replace hd10 := hd10.mono hle15
        replace h32 := h32.mono hle15
        replace hr17 := hr17.mono hle15
        replace hd11 := hd11.mono hle15
        replace hd12 := hd12.mono hle15
        replace hl2 := hl2.mono hle15
        replace hl3 := hl3.mono hle15
        obtain rfl : i = (mny d - 1) := by omega
        subst hlm
        refine ws_region rfl ?_
        refine wlm 0 1 rfl rfl rfl rfl rfl rfl rfl ?_
        refine wlo 1 2 rfl rfl rfl (wo_ct rfl rfl rfl rfl rfl rfl rfl cf32 S31 (RDet_t (mny d - 1) 1 (by omega) (by omega) _ _ _ (lessA d (mny d - 1)) _ _ _ _ hr20 hl2 hl3 (lessA_sq d) S31.lend) ?_)
        intro vw22 w22 M16 hle16 S32 hRw22; clear S31
        replace hdcrs := hdcrs.mono (Hp.un_mono hle16 S32.mx)
        replace hr15 := hr15.mono hle16
        replace hr16 := hr16.mono hle16
        replace hd10 := hd10.mono hle16
        replace h32 := h32.mono hle16
        replace hr17 := hr17.mono hle16
        replace hd11 := hd11.mono hle16
        replace hd12 := hd12.mono hle16
        replace hl2 := hl2.mono hle16
        replace hl3 := hl3.mono hle16
        replace hr20 := hr20.mono hle16
        obtain ⟨A17, c17, l3, rfl, hr21, hcan3, hbd3, hmk3⟩ := hRw22
        refine wlo 2 3 rfl rfl rfl (wo_ct rfl rfl rfl rfl rfl rfl rfl cf23 S32 (UnitOf_t l3 hr21 12 hcan3 (hbd3.mono (by omega)) (by omega) S32.lend) ?_)
        intro vw23 w23 M17 hle17 S33 hRw23; clear S32
        replace hdcrs := hdcrs.mono (Hp.un_mono hle17 S33.mx)
        replace hr15 := hr15.mono hle17
        replace hr16 := hr16.mono hle17
        replace hd10 := hd10.mono hle17
        replace h32 := h32.mono hle17
        replace hr17 := hr17.mono hle17
        replace hd11 := hd11.mono hle17
        replace hd12 := hd12.mono hle17
        replace hl2 := hl2.mono hle17
        replace hl3 := hl3.mono hle17
        replace hr20 := hr20.mono hle17
        replace hr21 := hr21.mono hle17
        obtain ⟨A18, c18, rfl, hr22⟩ := hRw23
        refine wla 3 4 rfl rfl rfl rfl rfl rfl rfl ?_
        refine wl_end rfl ?_
        refine nm_sub [(2, _)] ⟨rfl, trivial⟩ ?_
        refine nm_thn ?_
        refine ws_ret hC [_] rfl rfl ⟨rfl, trivial⟩ ?_
        refine ⟨_, rfl, _, ((((hle12.trans hle13).trans hle14).trans hle15).trans hle16).trans hle17, (S33.pick [] [] (by decide) trivial), ?_⟩
        refine ⟨_, _, _, rfl, hr22, ?_⟩
        unfold IsAlex
        rw [if_neg (by omega), if_neg (by omega)]
        exact ⟨_, hcan3, hbd3.mono (by omega), by rw [hmk3, lessA_det], rfl⟩
     ·have hb40 := of_decide_eq_false hb40
      refine ws_skip rfl ?_
      refine nm_sub [(4, _), (5, _)] ⟨rfl, rfl, trivial⟩ ?_
      refine nm_thn ?_
      refine ws_seqN AlexanderOf_n31 AlexanderOf_n32 rfl rfl rfl ?_
      have hT : (vs2).length = (mny d - 1) := by omega
      have hU : ∀ q, q < (mny d - 1) → ga ((tblA d)) q = rowL d q := fun q hq => by rw [tblA_ga d (by omega)]
      have hT2 := hd10.1
      have hT3 := h32.1
      refine ws_region rfl ?_
      refine wla 0 1 rfl rfl rfl rfl rfl rfl rfl ?_
      refine wl_end rfl ?_
      refine nm_thn ?_
      refine ws_seqN AlexanderOf_n33 AlexanderOf_n34 rfl rfl rfl ?_
      refine ws_seqN AlexanderOf_n35 AlexanderOf_n36 rfl rfl rfl ?_
      refine ws_region rfl ?_
      refine wla 0 1 rfl rfl rfl rfl rfl rfl rfl ?_
      refine wl_end rfl ?_
      refine nm_thn ?_
      refine ws_blockN AlexanderOf_n37 0 rfl rfl rfl ?_
      have S34 := S25.nilrow (cdV 43); clear S25
      refine ws_loopE (fun mx_ ax_ wx_ => ∃ (i : Nat) (lv : List SlV) (ls : List (List SlV)) (lm : List (List (List Tm))) (vrl : Value) (M18 : Hp), M13.le M18 ∧ mx_ = (mny d - 1) - i ∧ Env 64 [(4, .int .i64 (mny d : Int)), (5, .slice A13 vs2.length c13), (6, vrl), (7, .int .i64 (i : Int))] ax_ ∧ SH wx_ M18 X [Rs.row (cdV 43) vrl lv] ∧ i ≤ (mny d - 1) ∧ lm = lessA d i ∧ Rd2 (cdV 22) M18 lv ls ∧ RdD cdTm M18 ls lm) rfl ?_ ?_
      ·intro ax_ hax_
       refine ⟨_, ⟨0, _, ([]), ([]), _, _, Hp.le_refl _, rfl, hax_.sub ⟨rfl, rfl, rfl, rfl, trivial⟩, S34.pick [0] [_] (by decide) ⟨rfl, trivial⟩, ?hq7f0, ?hq7f1, ?hq7f2, ?hq7f3⟩⟩
       case hq7f0 => omega
       case hq7f1 => rfl
       case hq7f2 => exact Rd2.nil_
       case hq7f3 => exact RdD.nil_
      ·rintro m4 a4 w24 ⟨i, lv, ls, lm, vrl, M18, hle18, rfl, he4, S35, hi, hlm, hl2, hl3⟩
       clear S34
       refine ws_in he4 (c := AlexanderOf_n38) rfl ?_
       clear he4 a4
       replace hdcrs := hdcrs.mono (Hp.un_mono hle18 S35.mx)
       replace hr15 := hr15.mono hle18
       replace hr16 := hr16.mono hle18
       replace hd10 := hd10.mono hle18
       replace h32 := h32.mono hle18
       have hl21 := hl2.1
       have hl31 := hl3.1
       have hlml : lm.length = i := by rw [hlm, lessA_len]
       have hUi := hU i
       have hUl : i < (mny d - 1) → (ga ((tblA d)) i).length = mny d := fun h => by rw [hU i h, rowL_len]
       refine ws_seqN AlexanderOf_n39 AlexanderOf_n40 rfl rfl rfl ?_
       refine ws_seqN AlexanderOf_n41 AlexanderOf_n42 rfl rfl rfl ?_
       refine ws_region rfl ?_
       refine wlm 0 1 rfl rfl rfl rfl rfl rfl rfl ?_
       refine wlm 1 2 rfl rfl rfl rfl rfl rfl rfl ?_
       refine wlo 2 3 rfl rfl rfl (wo_run rfl rfl (run_len rfl rfl rfl rfl rfl rfl Try.underlying37) ?_)
       refine wlo 3 4 rfl rfl rfl (wo_run rfl rfl (run_lss rfl rfl rfl) ?_)
       refine wl_end rfl ?_
       refine nm_sub [(4, _), (5, _), (6, _), (7, _), (48, _)] ⟨rfl, rfl, rfl, rfl, rfl, trivial⟩ ?_
       refine nm_thn ?_
       refine ws_condN AlexanderOf_n43 AlexanderOf_n44 rfl rfl rfl rfl (fun hb48 => ?_) (fun hb48 => ?_)
       ·have hb48 := of_decide_eq_true hb48
        refine ws_skip rfl ?_
        refine nm_sub [(4, _), (5, _), (6, _), (7, _)] ⟨rfl, rfl, rfl, rfl, trivial⟩ ?_
        refine nm_thn ?_
        refine ws_seqN AlexanderOf_n45 AlexanderOf_n46 rfl rfl rfl ?_
        refine ws_blockN AlexanderOf_n47 1 rfl rfl rfl ?_
        have hUl2 := hUl (by omega)
        refine ws_region rfl ?_
        refine wlm 0 1 rfl rfl rfl rfl rfl rfl rfl ?_
        refine wlm 1 2 rfl rfl rfl rfl rfl rfl rfl ?_
        refine wlm 2 3 rfl rfl rfl rfl rfl rfl rfl ?_
        refine wlo 3 4 rfl rfl rfl (wo_run rfl rfl (run_indexM (C := (cdV 43)) i rfl rfl rfl sl37 (by first | rfl | omega) hr16 (by first | omega | (simp only [lens]; omega))) ?_)
        obtain ⟨hn4, hr23⟩ := hd10.2 i (by first | omega | (simp only [lens]; omega))
        have rmhr23 : (ga ss2 i).length * 24 ≤ 140737488355328 := hr23.room
        have hW4 := h32.2 i (by have := h32.1; have := hd10.1; first | omega | (simp_all; omega))
        have hW4l := hW4.1
        refine wlo 4 5 rfl rfl rfl (wo_run rfl rfl (run_load1 rfl rfl Try.underlying43 rfl (hr16.cell S35.m (i := i) (by first | omega | (simp only [lens]; omega)) 0 rfl (congrArg (fun n => some (Value.slice _ n _)) hn4))) ?_)
        refine wlm 5 6 rfl rfl rfl rfl rfl rfl rfl ?_
        refine wlo 6 7 rfl rfl rfl (wo_run rfl rfl (run_sub rfl rfl rfl (by first | omega | (simp only [lens]; omega))) ?_)
        refine wl_eq 57 (.int .i64 ((mny d - 1 : Nat) : Int)) rfl (int_eq (by omega)) ?_
        refine wlo 7 8 rfl rfl rfl (wo_sliceT (C := (cdV 22)) (mny d - 1) rfl rfl rfl rfl rfl sl43 (by first | rfl | omega) (by first | omega | (simp only [lens]; omega)) hr23 ?_)
        intro A19 c19 hr24
        have hd16 := hW4.take_ (mny d - 1)
        refine wlo 8 9 rfl rfl rfl (wo_buildSlice1 (C := (cdV 43)) (l := [_]) rfl rfl rfl rfl sl37 rfl rfl rfl rfl S35 ?_)
        intro gb6 w25 S36; clear S35
        refine wlo 9 10 rfl rfl rfl (wo_append1 (C := (cdV 43)) (i := 1) (q := 0) (⟨A19, ((ga ss2 i).take (mny d - 1)).length, c19⟩ : SlV) rfl rfl rfl rfl rfl rfl rfl rfl sl37 S36 rfl rfl rfl (by show (_ + 1) * 24 ≤ _; first | omega | (simp only [lens]; omega)) ?_)
        intro vrl4 w26 S37; clear S36
        have S38 := S37.pick [1] [_] (by decide) ⟨rfl, trivial⟩; clear S37
        have hd17 := hl2.snoc (c := c19) hr24
        have hd18 := hl3.snoc hd16
        refine wla 10 11 rfl rfl rfl rfl rfl rfl rfl ?_
        refine wl_end rfl ?_
        refine nm_blk ?_
        refine nm_sub [(4, _), (5, _), (6, _), (7, _)] ⟨rfl, rfl, rfl, rfl, trivial⟩ ?_
        refine nm_thn ?_
        refine ws_region rfl ?_
        refine wlm 0 1 rfl rfl rfl rfl rfl rfl rfl ?_
        refine wlo 1 2 rfl rfl rfl (wo_run rfl rfl (run_add rfl rfl rfl (by first | omega | (simp only [lens]; omega))) ?_)
        refine wla 2 3 rfl rfl rfl rfl rfl rfl rfl ?_
        refine wl_end rfl ?_
        refine nm_lp ?_
        intro ax_ hax_
        refine ⟨_, ?hq8m, ⟨i + 1, _, (ls ++ [(ga ss2 i).take (mny d - 1)]), (lm ++ [(ga (tblA d) i).take (mny d - 1)]), _, _, (hle18), rfl, hax_.sub ⟨rfl, rfl, rfl, rfl, trivial⟩, S38.pick [0] [_] (by decide) ⟨rfl, trivial⟩, ?hq8f0, ?hq8f1, ?hq8f2, ?hq8f3⟩⟩
        case hq8f0 => omega
        case hq8f1 => (rw [lessA_succ, ← hlm, hUi (by omega)])
        case hq8f2 => exact hd17
        case hq8f3 => exact hd18
        case hq8m => omega
       ·have hb48 := of_decide_eq_false hb48
        refine ws_exit rfl rfl ?_
        refine nm_sub [(6, _)] ⟨rfl, trivial⟩ ?_
        refine nm_thn ?_
        refine ws_seqN AlexanderOf_n48 AlexanderOf_n49 rfl rfl rfl ?_
        obtain ⟨M19, hle19, S39, ⟨A20, c20, e4, hr25⟩⟩ := S35.pubrow (i := 0) (H' := [_]) rfl rfl (by show _ * 24 ≤ _; first | omega | (simp only [lens]; omega))
        clear S35; subst e4
        replace hdcrs := hdcrs.mono (Hp.un_mono hle19 S39.mx)
        replace hr15 := hr15.mono hle19
        replace hr16 := hr16.mono hle19
        replace hd10 := hd10.mono hle19
        replace h32 := h32.mono hle19
        replace hl2 := hl2.mono hle19
        replace hl3 := hl3.mono hle19
        obtain rfl : i = (mny d - 1) := by omega
        subst hlm
        refine ws_region rfl ?_
        refine wlm 0 1 rfl rfl rfl rfl rfl rfl rfl ?_
        refine wlo 1 2 rfl rfl rfl (wo_ct rfl rfl rfl rfl rfl rfl rfl cf32 S39 (RDet_t (mny d - 1) 1 (by omega) (by omega) _ _ _ (lessA d (mny d - 1)) _ _ _ _ hr25 hl2 hl3 (lessA_sq d) S39.lend) ?_)
        intro vw27 w27 M20 hle20 S40 hRw27; clear S39
        replace hdcrs := hdcrs.mono (Hp.un_mono hle20 S40.mx)
        replace hr15 := hr15.mono hle20
        replace hr16 := hr16.mono hle20
        replace hd10 := hd10.mono hle20
        replace h32 := h32.mono hle20
        replace hl2 := hl2.mono hle20
        replace hl3 := hl3.mono hle20
        replace hr25 := hr25.mono hle20
        obtain ⟨A21, c21, l4, rfl, hr26, hcan4, hbd4, hmk4⟩ := hRw27
        refine wlo 2 3 rfl rfl rfl (wo_ct rfl rfl rfl rfl rfl rfl rfl cf23 S40 (UnitOf_t l4 hr26 12 hcan4 (hbd4.mono (by omega)) (by omega) S40.lend) ?_)
        intro vw28 w28 M21 hle21 S41 hRw28; clear S40
        replace hdcrs := hdcrs.mono (Hp.un_mono hle21 S41.mx)
        replace hr15 := hr15.mono hle21
        replace hr16 := hr16.mono hle21
        replace hd10 := hd10.mono hle21
        replace h32 := h32.mono hle21
        replace hl2 := hl2.mono hle21
        replace hl3 := hl3.mono hle21
        replace hr25 := hr25.mono hle21
        replace hr26 := hr26.mono hle21
        obtain ⟨A22, c22, rfl, hr27⟩ := hRw28
        refine wla 3 4 rfl rfl rfl rfl rfl rfl rfl ?_
        refine wl_end rfl ?_
        refine nm_sub [(2, _)] ⟨rfl, trivial⟩ ?_
        refine nm_thn ?_
        refine ws_ret hC [_] rfl rfl ⟨rfl, trivial⟩ ?_
        refine ⟨_, rfl, _, ((((hle12.trans hle13).trans hle18).trans hle19).trans hle20).trans hle21, (S41.pick [] [] (by decide) trivial), ?_⟩
        refine ⟨_, _, _, rfl, hr27, ?_⟩
        unfold IsAlex
        rw [if_neg (by omega), if_neg (by omega)]
        exact ⟨_, hcan4, hbd4.mono (by omega), by rw [hmk4, lessA_det], rfl⟩
end Go.Proofs.Ytkcighnochjlgaa
namespace Go.Proofs.Ytkcighnochjlgaa
open Go.ChangeShapes Go.WideShapes Go.ChangeAt Go.RowKit
noncomputable def AlexTells_n0 : Code := Try.f8.body.getD .skip
noncomputable def AlexTells_n1 : Code := cL AlexTells_n0
noncomputable def AlexTells_n2 : Code := cR AlexTells_n0
noncomputable def AlexTells_n3 : Code := cL AlexTells_n2
noncomputable def AlexTells_n4 : Code := cR AlexTells_n2
noncomputable def AlexTells_n5 : Code := cL AlexTells_n4
noncomputable def AlexTells_n6 : Code := cR AlexTells_n4
noncomputable def AlexTells_n7 : Code := cL AlexTells_n6
noncomputable def AlexTells_n8 : Code := cR AlexTells_n6
noncomputable def AlexTells_n9 : Code := cL AlexTells_n8
noncomputable def AlexTells_n10 : Code := cR AlexTells_n8
noncomputable def AlexTells_n11 : Code := cL AlexTells_n9
noncomputable def AlexTells_n12 : Code := cR AlexTells_n9
noncomputable def AlexTells_n13 : Code := cL AlexTells_n12
noncomputable def AlexTells_n14 : Code := cR AlexTells_n12
noncomputable def AlexTells_n15 : Code := cL AlexTells_n13
noncomputable def AlexTells_n16 : Code := cR AlexTells_n13
noncomputable def AlexTells_n17 : Code := cL AlexTells_n10
noncomputable def AlexTells_n18 : Code := cR AlexTells_n10
noncomputable def AlexTells_n19 : Code := cL AlexTells_n18
noncomputable def AlexTells_n20 : Code := cR AlexTells_n18
noncomputable def AlexTells_n21 : Code := cL AlexTells_n20
noncomputable def AlexTells_n22 : Code := cR AlexTells_n20
noncomputable def AlexTells_n23 : Code := cL AlexTells_n21
noncomputable def AlexTells_n24 : Code := cR AlexTells_n21
noncomputable def AlexTells_n25 : Code := cL AlexTells_n24
noncomputable def AlexTells_n26 : Code := cR AlexTells_n24
noncomputable def AlexTells_n27 : Code := cL AlexTells_n22
noncomputable def AlexTells_n28 : Code := cR AlexTells_n22
set_option maxHeartbeats 1000000 in
set_option maxRecDepth 10000 in
theorem AlexTells_t {w : World} {M : Hp} {X : Fr} (d : Dg) {dcrsA : Option Addr} {dcrsc : Nat} (hdcrs : RdA cdCr M dcrsA dcrsc d.crs) (S : SH w M X []) : Ct Try.prog 8 [.agg [.slice dcrsA d.crs.length dcrsc, .int .i64 d.loops].toArray] w M X (fun u _ => u = .bool true) := by
 unfold Ct
 have rmhdcrs : d.crs.length * 40 ≤ 140737488355328 := hdcrs.room
 refine calls_in (b := AlexTells_n0) Try.func8 rfl Try.ntmps8 rfl (fun C hC => ?_)
 refine ws_sub [(0, _)] ⟨rfl, trivial⟩ ?_
 refine ws_seqN AlexTells_n1 AlexTells_n2 rfl rfl rfl ?_
 refine ws_region rfl ?_
 refine wlo 0 1 rfl rfl rfl (wo_box (l := [_, _]) rfl rfl rfl rfl rfl S ?_)
 intro gb1 w1 S1; clear S
 refine wla 1 2 rfl rfl rfl rfl rfl rfl rfl ?_
 refine wl_end rfl ?_
 refine nm_sub [(1, _)] ⟨rfl, trivial⟩ ?_
 refine nm_thn ?_
 refine ws_seqN AlexTells_n3 AlexTells_n4 rfl rfl rfl ?_
 refine ws_region rfl ?_
 refine wlo 0 1 rfl rfl rfl (wo_run rfl rfl (run_loadN (us := [_, _]) rfl rfl Try.underlying51 rfl sz51 (S1.boxcs (i := 0) rfl ⟨rfl, rfl, trivial⟩)) ?_)
 refine wlo 1 2 rfl rfl rfl (wo_ct rfl rfl rfl rfl rfl rfl rfl cf34 S1 (DiagramOf_t d (hdcrs.mono (Hp.le_un _ _)) S1.lend) ?_)
 intro vw2 w2 M1 hle1 S2 hRw2; clear S1
 replace hdcrs := hdcrs.mono hle1
 obtain ⟨A1, c1, rfl, hr1⟩ := hRw2
 refine wlo 2 3 rfl rfl rfl (wo_ct rfl rfl rfl rfl rfl rfl rfl cf37 S2 (Alexander_t d (hr1.mono (Hp.le_un _ _)) S2.lend) ?_)
 intro vw3 w3 M2 hle2 S3 hRw3; clear S2
 replace hdcrs := hdcrs.mono hle2
 replace hr1 := hr1.mono hle2
 rcases hRw3 with ⟨hok, rfl⟩ | ⟨hok, A2, c2, l1, rfl, hr2, hia1⟩
 ·refine wlm 3 4 rfl rfl rfl rfl rfl rfl rfl ?_
  refine wlo 4 5 rfl rfl rfl (wo_run rfl rfl (run_extract rfl rfl rfl) ?_)
  refine wlo 5 6 rfl rfl rfl (wo_run rfl rfl (run_extract rfl rfl rfl) ?_)
  refine wla 6 7 rfl rfl rfl rfl rfl rfl rfl ?_
  refine wla 7 8 rfl rfl rfl rfl rfl rfl rfl ?_
  refine wl_end rfl ?_
  refine nm_sub [(1, _), (3, _), (4, _)] ⟨rfl, rfl, rfl, trivial⟩ ?_
  refine nm_thn ?_
  refine ws_seqN AlexTells_n5 AlexTells_n6 rfl rfl rfl ?_
  refine ws_region rfl ?_
  refine wlo 0 1 rfl rfl rfl (wo_run rfl rfl (run_loadN (us := [_, _]) rfl rfl Try.underlying51 rfl sz51 (S3.boxcs (i := 0) rfl ⟨rfl, rfl, trivial⟩)) ?_)
  refine wlo 1 2 rfl rfl rfl (wo_ct rfl rfl rfl rfl rfl rfl rfl cf34 S3 (DiagramOf_t d (hdcrs.mono (Hp.le_un _ _)) S3.lend) ?_)
  intro vw4 w4 M3 hle3 S4 hRw4; clear S3
  replace hdcrs := hdcrs.mono hle3
  replace hr1 := hr1.mono hle3
  obtain ⟨A3, c3, rfl, hr3⟩ := hRw4
  refine wlo 2 3 rfl rfl rfl (wo_ct rfl rfl rfl rfl rfl rfl rfl cf38 S4 (ADeterminant_t d (hr3.mono (Hp.le_un _ _)) S4.lend) ?_)
  intro vw5 w5 M4 hle4 S5 hRw5; clear S4
  replace hdcrs := hdcrs.mono hle4
  replace hr1 := hr1.mono hle4
  replace hr3 := hr3.mono hle4
  rcases hRw5 with ⟨hok2, rfl⟩ | ⟨hok2, l2, hib1, rfl⟩
  ·refine wlm 3 4 rfl rfl rfl rfl rfl rfl rfl ?_
   refine wlo 4 5 rfl rfl rfl (wo_run rfl rfl (run_extract rfl rfl rfl) ?_)
   refine wlo 5 6 rfl rfl rfl (wo_run rfl rfl (run_extract rfl rfl rfl) ?_)
   refine wla 6 7 rfl rfl rfl rfl rfl rfl rfl ?_
   refine wla 7 8 rfl rfl rfl rfl rfl rfl rfl ?_
   refine wl_end rfl ?_
   refine nm_sub [(1, _), (3, _), (4, _), (5, _), (6, _)] ⟨rfl, rfl, rfl, rfl, rfl, trivial⟩ ?_
   refine nm_thn ?_
   refine ws_seqN AlexTells_n7 AlexTells_n8 rfl rfl rfl ?_
   refine ws_region rfl ?_
   refine wlo 0 1 rfl rfl rfl (wo_run rfl rfl (run_loadN (us := [_, _]) rfl rfl Try.underlying51 rfl sz51 (S5.boxcs (i := 0) rfl ⟨rfl, rfl, trivial⟩)) ?_)
   refine wlo 1 2 rfl rfl rfl (wo_ct rfl rfl rfl rfl rfl rfl rfl cf35 S5 (few_t d 10 (hdcrs.mono (Hp.le_un _ _)) S5.lend) ?_)
   intro vw6 w6 M5 hle5 S6 hRw6; clear S5
   replace hdcrs := hdcrs.mono hle5
   replace hr1 := hr1.mono hle5
   replace hr3 := hr3.mono hle5
   obtain rfl := hRw6
   refine wla 2 3 rfl rfl rfl rfl rfl rfl rfl ?_
   refine wl_end rfl ?_
   refine nm_sub [(1, _), (3, _), (4, _), (5, _), (6, _), (7, _)] ⟨rfl, rfl, rfl, rfl, rfl, rfl, trivial⟩ ?_
   refine nm_thn ?_
   refine ws_seqN AlexTells_n9 AlexTells_n10 rfl rfl rfl ?_
   refine ws_seqN AlexTells_n11 AlexTells_n12 rfl rfl rfl ?_
   refine ws_region rfl ?_
   refine wlm 0 1 rfl rfl rfl rfl rfl rfl rfl ?_
   refine wlo 1 2 rfl rfl rfl (wo_run rfl rfl (run_neq rfl rfl rfl) ?_)
   refine wl_end rfl ?_
   refine nm_sub [(1, _), (3, _), (4, _), (5, _), (6, _), (7, _), (25, _)] ⟨rfl, rfl, rfl, rfl, rfl, rfl, rfl, trivial⟩ ?_
   refine nm_thn ?_
   refine ws_condN AlexTells_n13 AlexTells_n14 rfl rfl rfl rfl (fun hb25 => ?_) (fun hb25 => ?_)
   ·have hb25 := of_decide_eq_true hb25
    refine ws_seqN AlexTells_n15 AlexTells_n16 rfl rfl rfl ?_
    refine ws_region rfl ?_
    refine wlm 0 1 rfl rfl rfl rfl rfl rfl rfl ?_
    refine wlm 1 2 rfl rfl rfl rfl rfl rfl rfl ?_
    refine wlo 2 3 rfl rfl rfl (wo_run rfl rfl (run_eql rfl rfl rfl) ?_)
    refine wlm 3 4 rfl rfl rfl rfl rfl rfl rfl ?_
    refine wl_split (t := 29) rfl (fun hg29 => ?_) (fun hg29 => ?_)
    ·have hg29 := of_decide_eq_true hg29
     refine wl_opG (k := 4) (k' := 5) rfl rfl ⟨_, _, _, rfl, rfl, rfl, rfl⟩ rfl (wo_run rfl rfl (run_move rfl rfl) ?_)
     refine wl_opG (k := 5) (k' := 6) rfl rfl ⟨_, _, _, rfl, rfl, rfl, rfl⟩ rfl (wo_run rfl rfl (run_move rfl rfl) ?_)
     refine wl_opG (k := 6) (k' := 7) rfl rfl ⟨_, _, _, rfl, rfl, rfl, rfl⟩ rfl (wo_run rfl rfl (run_eql rfl rfl rfl) ?_)
     refine wlo 7 8 rfl rfl rfl (wo_run rfl rfl (run_pickT rfl rfl rfl) ?_)
     refine wlm 8 9 rfl rfl rfl rfl rfl rfl rfl ?_
     refine wl_split (t := 34) rfl (fun hg34 => ?_) (fun hg34 => ?_)
     ·have hg34 := of_decide_eq_true hg34
      refine wl_opG (k := 9) (k' := 10) rfl rfl ⟨_, _, _, rfl, rfl, rfl, rfl⟩ rfl (wo_run rfl rfl (run_move rfl rfl) ?_)
      refine wl_opG (k := 10) (k' := 11) rfl rfl ⟨_, _, _, rfl, rfl, rfl, rfl⟩ rfl (wo_run rfl rfl (run_len rfl rfl rfl rfl rfl rfl Try.underlying22) ?_)
      refine wl_opG (k := 11) (k' := 12) rfl rfl ⟨_, _, _, rfl, rfl, rfl, rfl⟩ rfl (wo_run rfl rfl (run_eql rfl rfl rfl) ?_)
      refine wlo 12 13 rfl rfl rfl (wo_run rfl rfl (run_pickT rfl rfl rfl) ?_)
      refine wlm 13 14 rfl rfl rfl rfl rfl rfl rfl ?_
      refine wl_split (t := 39) rfl (fun hg39 => ?_) (fun hg39 => ?_)
      ·have hg39 := of_decide_eq_true hg39
       refine wl_opG (k := 14) (k' := 15) rfl rfl ⟨_, _, _, rfl, rfl, rfl, rfl⟩ rfl (wo_run rfl rfl (run_move rfl rfl) ?_)
       refine wl_opG (k := 15) (k' := 16) rfl rfl ⟨_, _, _, rfl, rfl, rfl, rfl⟩ rfl (wo_run rfl rfl (run_eql rfl rfl rfl) ?_)
       refine wlo 16 17 rfl rfl rfl (wo_run rfl rfl (run_pickT rfl rfl rfl) ?_)
       refine wla 17 18 rfl rfl rfl rfl rfl rfl rfl ?_
       refine wl_end rfl ?_
       refine nm_sub [(2, _)] ⟨rfl, trivial⟩ ?_
       refine nm_thn ?_
       refine ws_ret hC [_] rfl rfl ⟨rfl, trivial⟩ ?_
       refine ⟨_, rfl, _, (((hle1.trans hle2).trans hle3).trans hle4).trans hle5, (S6.pick [] [] (by decide) trivial), ?_⟩
       show Value.bool _ = _
       refine congrArg Value.bool ?_
       first | rfl | (rw [decide_eq_true_iff]; omega) | (simp_all; done)
      ·have hg39 := of_decide_eq_false hg39
       exfalso; first | omega | (simp_all; done) | contradiction
     ·have hg34 := of_decide_eq_false hg34
      exfalso; first | omega | (simp_all; done) | contradiction
    ·have hg29 := of_decide_eq_false hg29
     exfalso; first | omega | (simp_all; done) | contradiction
   ·have hb25 := of_decide_eq_false hb25
    exfalso; first | omega | (simp_all; done) | contradiction
  ·exact absurd hok2 hok
 ·obtain ⟨heO, hnm⟩ := errK_ok hok
  obtain ⟨hmo, hpl⟩ := errO_ok heO
  obtain ⟨hn, hab, hlo0, hlo1⟩ := mayO hmo
  have rmll1 : l1.length * 16 ≤ 140737488355328 := hr2.room
  refine wlm 3 4 rfl rfl rfl rfl rfl rfl rfl ?_
  refine wlo 4 5 rfl rfl rfl (wo_run rfl rfl (run_extract rfl rfl rfl) ?_)
  refine wlo 5 6 rfl rfl rfl (wo_run rfl rfl (run_extract rfl rfl rfl) ?_)
  refine wla 6 7 rfl rfl rfl rfl rfl rfl rfl ?_
  refine wla 7 8 rfl rfl rfl rfl rfl rfl rfl ?_
  refine wl_end rfl ?_
  refine nm_sub [(1, _), (3, _), (4, _)] ⟨rfl, rfl, rfl, trivial⟩ ?_
  refine nm_thn ?_
  refine ws_seqN AlexTells_n5 AlexTells_n6 rfl rfl rfl ?_
  refine ws_region rfl ?_
  refine wlo 0 1 rfl rfl rfl (wo_run rfl rfl (run_loadN (us := [_, _]) rfl rfl Try.underlying51 rfl sz51 (S3.boxcs (i := 0) rfl ⟨rfl, rfl, trivial⟩)) ?_)
  refine wlo 1 2 rfl rfl rfl (wo_ct rfl rfl rfl rfl rfl rfl rfl cf34 S3 (DiagramOf_t d (hdcrs.mono (Hp.le_un _ _)) S3.lend) ?_)
  intro vw7 w7 M6 hle6 S7 hRw7; clear S3
  replace hdcrs := hdcrs.mono hle6
  replace hr1 := hr1.mono hle6
  replace hr2 := hr2.mono hle6
  obtain ⟨A4, c4, rfl, hr4⟩ := hRw7
  refine wlo 2 3 rfl rfl rfl (wo_ct rfl rfl rfl rfl rfl rfl rfl cf38 S7 (ADeterminant_t d (hr4.mono (Hp.le_un _ _)) S7.lend) ?_)
  intro vw8 w8 M7 hle7 S8 hRw8; clear S7
  replace hdcrs := hdcrs.mono hle7
  replace hr1 := hr1.mono hle7
  replace hr2 := hr2.mono hle7
  replace hr4 := hr4.mono hle7
  rcases hRw8 with ⟨hok2, rfl⟩ | ⟨hok2, l3, hib2, rfl⟩
  ·exact absurd hok hok2
  ·obtain rfl := isAlex_uniq hia1 hib2
   refine wlm 3 4 rfl rfl rfl rfl rfl rfl rfl ?_
   refine wlo 4 5 rfl rfl rfl (wo_run rfl rfl (run_extract rfl rfl rfl) ?_)
   refine wlo 5 6 rfl rfl rfl (wo_run rfl rfl (run_extract rfl rfl rfl) ?_)
   refine wla 6 7 rfl rfl rfl rfl rfl rfl rfl ?_
   refine wla 7 8 rfl rfl rfl rfl rfl rfl rfl ?_
   refine wl_end rfl ?_
   refine nm_sub [(1, _), (3, _), (4, _), (5, _), (6, _)] ⟨rfl, rfl, rfl, rfl, rfl, trivial⟩ ?_
   refine nm_thn ?_
   refine ws_seqN AlexTells_n7 AlexTells_n8 rfl rfl rfl ?_
   refine ws_region rfl ?_
   refine wlo 0 1 rfl rfl rfl (wo_run rfl rfl (run_loadN (us := [_, _]) rfl rfl Try.underlying51 rfl sz51 (S8.boxcs (i := 0) rfl ⟨rfl, rfl, trivial⟩)) ?_)
   refine wlo 1 2 rfl rfl rfl (wo_ct rfl rfl rfl rfl rfl rfl rfl cf35 S8 (few_t d 10 (hdcrs.mono (Hp.le_un _ _)) S8.lend) ?_)
   intro vw9 w9 M8 hle8 S9 hRw9; clear S8
   replace hdcrs := hdcrs.mono hle8
   replace hr1 := hr1.mono hle8
   replace hr2 := hr2.mono hle8
   replace hr4 := hr4.mono hle8
   obtain rfl := hRw9
   refine wla 2 3 rfl rfl rfl rfl rfl rfl rfl ?_
   refine wl_end rfl ?_
   refine nm_sub [(1, _), (3, _), (4, _), (5, _), (6, _), (7, _)] ⟨rfl, rfl, rfl, rfl, rfl, rfl, trivial⟩ ?_
   refine nm_thn ?_
   refine ws_seqN AlexTells_n9 AlexTells_n10 rfl rfl rfl ?_
   refine ws_seqN AlexTells_n11 AlexTells_n12 rfl rfl rfl ?_
   refine ws_region rfl ?_
   refine wlm 0 1 rfl rfl rfl rfl rfl rfl rfl ?_
   refine wlo 1 2 rfl rfl rfl (wo_run rfl rfl (run_neq rfl rfl rfl) ?_)
   refine wl_end rfl ?_
   refine nm_sub [(1, _), (3, _), (4, _), (5, _), (6, _), (7, _), (25, _)] ⟨rfl, rfl, rfl, rfl, rfl, rfl, rfl, trivial⟩ ?_
   refine nm_thn ?_
   refine ws_condN AlexTells_n13 AlexTells_n14 rfl rfl rfl rfl (fun hb25 => ?_) (fun hb25 => ?_)
   ·have hb25 := of_decide_eq_true hb25
    exfalso; first | omega | (simp_all; done) | contradiction
   ·have hb25 := of_decide_eq_false hb25
    refine ws_skip rfl ?_
    refine nm_sub [(1, _), (3, _), (4, _), (5, _), (6, _)] ⟨rfl, rfl, rfl, rfl, rfl, trivial⟩ ?_
    refine nm_thn ?_
    refine ws_seqN AlexTells_n17 AlexTells_n18 rfl rfl rfl ?_
    refine ws_region rfl ?_
    refine wlo 0 1 rfl rfl rfl (wo_run rfl rfl (run_loadN (us := [_, _]) rfl rfl Try.underlying51 rfl sz51 (S9.boxcs (i := 0) rfl ⟨rfl, rfl, trivial⟩)) ?_)
    refine wlo 1 2 rfl rfl rfl (wo_ct rfl rfl rfl rfl rfl rfl rfl cf39 S9 (AlexanderOf_t d (hdcrs.mono (Hp.le_un _ _)) (hnm) (hab) (hlo0) (hlo1) S9.lend) ?_)
    intro vw10 w10 M9 hle9 S10 hRw10; clear S9
    replace hdcrs := hdcrs.mono hle9
    replace hr1 := hr1.mono hle9
    replace hr2 := hr2.mono hle9
    replace hr4 := hr4.mono hle9
    obtain ⟨A5, c5, l4, rfl, hr5, hic1⟩ := hRw10
    obtain rfl := isAlex_uniq hia1 hic1
    refine wla 2 3 rfl rfl rfl rfl rfl rfl rfl ?_
    refine wl_end rfl ?_
    refine nm_sub [(3, _), (4, _), (5, _), (6, _), (8, _)] ⟨rfl, rfl, rfl, rfl, rfl, trivial⟩ ?_
    refine nm_thn ?_
    refine ws_seqN AlexTells_n19 AlexTells_n20 rfl rfl rfl ?_
    refine ws_region rfl ?_
    refine wlm 0 1 rfl rfl rfl rfl rfl rfl rfl ?_
    refine wlo 1 2 rfl rfl rfl (wo_cq rfl rfl rfl rfl rfl rfl rfl cf25 S10 (AtOf_q l1 (-1) (hr5.mono (Hp.le_un _ _)) S10.lend) ?_)
    rintro _ w11 S11 rfl; clear S10
    refine wla 2 3 rfl rfl rfl rfl rfl rfl rfl ?_
    refine wl_end rfl ?_
    refine nm_sub [(3, _), (4, _), (5, _), (6, _), (8, _), (9, _)] ⟨rfl, rfl, rfl, rfl, rfl, rfl, trivial⟩ ?_
    refine nm_thn ?_
    refine ws_seqN AlexTells_n21 AlexTells_n22 rfl rfl rfl ?_
    refine ws_seqN AlexTells_n23 AlexTells_n24 rfl rfl rfl ?_
    refine ws_region rfl ?_
    refine wlm 0 1 rfl rfl rfl rfl rfl rfl rfl ?_
    refine wlo 1 2 rfl rfl rfl (wo_run rfl rfl (run_lss rfl rfl rfl) ?_)
    refine wl_end rfl ?_
    refine nm_sub [(3, _), (4, _), (5, _), (6, _), (8, _), (9, _), (48, _)] ⟨rfl, rfl, rfl, rfl, rfl, rfl, rfl, trivial⟩ ?_
    refine nm_thn ?_
    refine ws_condN AlexTells_n25 AlexTells_n26 rfl rfl rfl rfl (fun hb48 => ?_) (fun hb48 => ?_)
    ·have hb48 := of_decide_eq_true hb48
     refine ws_region rfl ?_
     refine wlm 0 1 rfl rfl rfl rfl rfl rfl rfl ?_
     refine wlo 1 2 rfl rfl rfl (wo_run rfl rfl (run_negW rfl rfl) ?_)
     refine wla 2 3 rfl rfl rfl rfl rfl rfl rfl ?_
     refine wl_end rfl ?_
     refine nm_sub [(3, _), (4, _), (5, _), (6, _), (8, _), (9, _)] ⟨rfl, rfl, rfl, rfl, rfl, rfl, trivial⟩ ?_
     refine nm_thn ?_
     refine ws_seqN AlexTells_n27 AlexTells_n28 rfl rfl rfl ?_
     refine ws_region rfl ?_
     refine wlm 0 1 rfl rfl rfl rfl rfl rfl rfl ?_
     refine wlo 1 2 rfl rfl rfl (wo_run rfl rfl (run_eql rfl rfl rfl) ?_)
     refine wlm 2 3 rfl rfl rfl rfl rfl rfl rfl ?_
     refine wl_split (t := 53) rfl (fun hg53 => ?_) (fun hg53 => ?_)
     ·have hg53 := of_decide_eq_true hg53
      refine wl_opG (k := 3) (k' := 4) rfl rfl ⟨_, _, _, rfl, rfl, rfl, rfl⟩ rfl (wo_run rfl rfl (run_move rfl rfl) ?_)
      refine wl_opG (k := 4) (k' := 5) rfl rfl ⟨_, _, _, rfl, rfl, rfl, rfl⟩ rfl (wo_run rfl rfl (run_eql rfl rfl rfl) ?_)
      refine wlo 5 6 rfl rfl rfl (wo_run rfl rfl (run_pickT rfl rfl rfl) ?_)
      refine wlm 6 7 rfl rfl rfl rfl rfl rfl rfl ?_
      refine wl_split (t := 57) rfl (fun hg57 => ?_) (fun hg57 => ?_)
      ·have hg57 := of_decide_eq_true hg57
       refine wl_opG (k := 7) (k' := 8) rfl rfl ⟨_, _, _, rfl, rfl, rfl, rfl⟩ rfl (wo_run rfl rfl (run_move rfl rfl) ?_)
       refine wl_opG (k := 8) (k' := 9) rfl rfl ⟨_, _, _, rfl, rfl, rfl, rfl⟩ rfl (wo_run rfl rfl (run_move rfl rfl) ?_)
       refine wl_opG (k := 9) (k' := 10) rfl rfl ⟨_, _, _, rfl, rfl, rfl, rfl⟩ rfl (wo_cq rfl rfl rfl rfl rfl rfl rfl cf17 S11 (sameTerms_q l1 l1 (hr2.mono (Hp.le_un _ _)) (hr5.mono (Hp.le_un _ _)) (rfl) S11.lend) ?_)
       rintro _ w12 S12 rfl; clear S11
       refine wlo 10 11 rfl rfl rfl (wo_run rfl rfl (run_pickT rfl rfl rfl) ?_)
       refine wlm 11 12 rfl rfl rfl rfl rfl rfl rfl ?_
       refine wl_opG (k := 12) (k' := 13) rfl rfl ⟨_, _, _, rfl, rfl, rfl, rfl⟩ rfl (wo_run rfl rfl (run_move rfl rfl) ?_)
       refine wl_opG (k := 13) (k' := 14) rfl rfl ⟨_, _, _, rfl, rfl, rfl, rfl⟩ rfl (wo_run rfl rfl (run_move rfl rfl) ?_)
       refine wl_opG (k := 14) (k' := 15) rfl rfl ⟨_, _, _, rfl, rfl, rfl, rfl⟩ rfl (wo_run rfl rfl (run_eql rfl rfl rfl) ?_)
       refine wlo 15 16 rfl rfl rfl (wo_run rfl rfl (run_pickT rfl rfl rfl) ?_)
       refine wla 16 17 rfl rfl rfl rfl rfl rfl rfl ?_
       refine wl_end rfl ?_
       refine nm_sub [(2, _)] ⟨rfl, trivial⟩ ?_
       refine nm_thn ?_
       refine ws_ret hC [_] rfl rfl ⟨rfl, trivial⟩ ?_
       refine ⟨_, rfl, _, ((((hle1.trans hle2).trans hle6).trans hle7).trans hle8).trans hle9, (S12.pick [] [] (by decide) trivial), ?_⟩
       show Value.bool _ = _
       refine congrArg Value.bool ?_
       rw [decide_eq_true_iff]
       have hmx := max_abs (atN_wr l1 (-1) l1.length)
       unfold detA
       rw [hmx]
       first | rw [if_pos (by assumption)] | rw [if_neg (by assumption)]
      ·have hg57 := of_decide_eq_false hg57
       exfalso; first | omega | (simp_all; done) | contradiction
     ·have hg53 := of_decide_eq_false hg53
      exfalso; first | omega | (simp_all; done) | contradiction
    ·have hb48 := of_decide_eq_false hb48
     refine ws_skip rfl ?_
     refine nm_sub [(3, _), (4, _), (5, _), (6, _), (8, _), (9, _)] ⟨rfl, rfl, rfl, rfl, rfl, rfl, trivial⟩ ?_
     refine nm_thn ?_
     refine ws_seqN AlexTells_n27 AlexTells_n28 rfl rfl rfl ?_
     refine ws_region rfl ?_
     refine wlm 0 1 rfl rfl rfl rfl rfl rfl rfl ?_
     refine wlo 1 2 rfl rfl rfl (wo_run rfl rfl (run_eql rfl rfl rfl) ?_)
     refine wlm 2 3 rfl rfl rfl rfl rfl rfl rfl ?_
     refine wl_split (t := 53) rfl (fun hg53 => ?_) (fun hg53 => ?_)
     ·have hg53 := of_decide_eq_true hg53
      refine wl_opG (k := 3) (k' := 4) rfl rfl ⟨_, _, _, rfl, rfl, rfl, rfl⟩ rfl (wo_run rfl rfl (run_move rfl rfl) ?_)
      refine wl_opG (k := 4) (k' := 5) rfl rfl ⟨_, _, _, rfl, rfl, rfl, rfl⟩ rfl (wo_run rfl rfl (run_eql rfl rfl rfl) ?_)
      refine wlo 5 6 rfl rfl rfl (wo_run rfl rfl (run_pickT rfl rfl rfl) ?_)
      refine wlm 6 7 rfl rfl rfl rfl rfl rfl rfl ?_
      refine wl_split (t := 57) rfl (fun hg57 => ?_) (fun hg57 => ?_)
      ·have hg57 := of_decide_eq_true hg57
       refine wl_opG (k := 7) (k' := 8) rfl rfl ⟨_, _, _, rfl, rfl, rfl, rfl⟩ rfl (wo_run rfl rfl (run_move rfl rfl) ?_)
       refine wl_opG (k := 8) (k' := 9) rfl rfl ⟨_, _, _, rfl, rfl, rfl, rfl⟩ rfl (wo_run rfl rfl (run_move rfl rfl) ?_)
       refine wl_opG (k := 9) (k' := 10) rfl rfl ⟨_, _, _, rfl, rfl, rfl, rfl⟩ rfl (wo_cq rfl rfl rfl rfl rfl rfl rfl cf17 S11 (sameTerms_q l1 l1 (hr2.mono (Hp.le_un _ _)) (hr5.mono (Hp.le_un _ _)) (rfl) S11.lend) ?_)
       rintro _ w13 S13 rfl; clear S11
       refine wlo 10 11 rfl rfl rfl (wo_run rfl rfl (run_pickT rfl rfl rfl) ?_)
       refine wlm 11 12 rfl rfl rfl rfl rfl rfl rfl ?_
       refine wl_opG (k := 12) (k' := 13) rfl rfl ⟨_, _, _, rfl, rfl, rfl, rfl⟩ rfl (wo_run rfl rfl (run_move rfl rfl) ?_)
       refine wl_opG (k := 13) (k' := 14) rfl rfl ⟨_, _, _, rfl, rfl, rfl, rfl⟩ rfl (wo_run rfl rfl (run_move rfl rfl) ?_)
       refine wl_opG (k := 14) (k' := 15) rfl rfl ⟨_, _, _, rfl, rfl, rfl, rfl⟩ rfl (wo_run rfl rfl (run_eql rfl rfl rfl) ?_)
       refine wlo 15 16 rfl rfl rfl (wo_run rfl rfl (run_pickT rfl rfl rfl) ?_)
       refine wla 16 17 rfl rfl rfl rfl rfl rfl rfl ?_
       refine wl_end rfl ?_
       refine nm_sub [(2, _)] ⟨rfl, trivial⟩ ?_
       refine nm_thn ?_
       refine ws_ret hC [_] rfl rfl ⟨rfl, trivial⟩ ?_
       refine ⟨_, rfl, _, ((((hle1.trans hle2).trans hle6).trans hle7).trans hle8).trans hle9, (S13.pick [] [] (by decide) trivial), ?_⟩
       show Value.bool _ = _
       refine congrArg Value.bool ?_
       rw [decide_eq_true_iff]
       have hmx := max_abs (atN_wr l1 (-1) l1.length)
       unfold detA
       rw [hmx]
       first | rw [if_pos (by assumption)] | rw [if_neg (by assumption)]
      ·have hg57 := of_decide_eq_false hg57
       exfalso; first | omega | (simp_all; done) | contradiction
     ·have hg53 := of_decide_eq_false hg53
      exfalso; first | omega | (simp_all; done) | contradiction
end Go.Proofs.Ytkcighnochjlgaa
namespace Go.Proofs.Ytkcighnochjlgaa
open Go.ChangeShapes Go.WideShapes Go.ChangeAt Go.RowKit Go.Joins Go.Deep
theorem sized_in {H : Type} {P : Program} {ts : List TypeId} {ds : List (DataW H)} (h : (DataW.weightsEach P ts ds).all (· ≤ reachBytes) = true) {j i : Nat} {t e : TypeId} {f : Field} {fs : Array Field} {parts : List (DataW H)} {elems spare : List (DataW H)}
    (ht : ts[j]? = some t) (hd : ds[j]? = some (.agg parts)) (hu : P.underlying t = some (.struct fs)) (hf : fs.toList[i]? = some f) (hp : parts[i]? = some (.slice elems spare)) (he : P.underlying f.type = some (.slice e)) :
    (elems.length + spare.length) * P.bytesOf e ≤ reachBytes := by
  have m1 := DataW.weights_mem_each (P := P) (ts := fs.toList.map (·.type)) (j := i) (t := f.type) (by rw [List.getElem?_map, hf]; rfl) hp ((elems.length + spare.length) * P.bytesOf e) (by simp [DataW.weights, he])
  have m2 := DataW.weights_mem_each (P := P) ht hd ((elems.length + spare.length) * P.bytesOf e) (by simp only [DataW.weights, hu]; exact m1)
  simpa using List.all_eq_true.1 h _ m2
theorem len5 (l : List Cr) : (l.flatMap codCr.f).length = l.length * 5 := by
  induction l with
  | nil => rfl
  | cons x l ih => rw [List.flatMap_cons, List.length_append, ih, codCr.hf, List.length_cons]; show 5 + _ = _; omega
theorem take1 {l : List Value} {j : Nat} {u : Value} (h : (l.drop j).take 1 = [u]) : l[j]? = some u := by
  have := congrArg (fun z => z[0]?) h
  simpa [List.getElem?_take, List.getElem?_drop] using this
theorem pick {α : Type} [Inhabited α] {m : Nat} {Q : Nat → α → Prop} (h : ∀ i, i < m → ∃ x, Q i x) : ∃ F : Nat → α, ∀ i, i < m → Q i (F i) :=
  ⟨fun i => if hi : i < m then (h i hi).choose else default, fun i hi => by
    show Q i (if hi : i < m then (h i hi).choose else default)
    rw [dif_pos hi]; exact (h i hi).choose_spec⟩
section
variable {H : Type} {enc : TypeId × Value → H} {w : World}
theorem f_int {n j : Nat} {cs : List Value} {y : DataW H × List MemPlace} (h : DataW.trod enc Try.prog w 0 (fun _ => true) true n 3 ((cs.drop j).take (Try.prog.cellsOf 3)) = some y) : ∃ a, cs[j]? = some (.int .i64 a) := by
  obtain ⟨a, e, _⟩ := DataW.trod_int Try.underlying3 h
  rw [show Try.prog.cellsOf 3 = 1 by kernel_rfl] at e
  exact ⟨a, take1 e⟩
theorem f_bool {n j : Nat} {cs : List Value} {y : DataW H × List MemPlace} (h : DataW.trod enc Try.prog w 0 (fun _ => true) true n 4 ((cs.drop j).take (Try.prog.cellsOf 4)) = some y) : ∃ a, cs[j]? = some (.bool a) := by
  obtain ⟨a, e, _⟩ := DataW.trod_bool Try.underlying4 h
  rw [show Try.prog.cellsOf 4 = 1 by kernel_rfl] at e
  exact ⟨a, take1 e⟩
set_option maxRecDepth 100000 in
theorem open_cr {n : Nat} {cs : List Value} {x : DataW H × List MemPlace} (h : DataW.trod enc Try.prog w 0 (fun _ => true) true n 111 cs = some x) : ∃ c : Cr, ∀ j u, j < 5 → (crF c)[j]? = some u → cs[j]? = some u := by
  obtain ⟨xs, k, _, _, _, hl, hf⟩ := DataW.trod_struct Try.underlying111 h
  match xs, hl with
  | [y0, y1, y2, y3, y4], _ =>
    have g0 := hf 0 _ rfl
    have g1 := hf 1 _ rfl
    have g2 := hf 2 _ rfl
    have g3 := hf 3 _ rfl
    have g4 := hf 4 _ rfl
    obtain ⟨n0, e0⟩ := f_int (j := 0) (y := y0) g0
    obtain ⟨n1, e1⟩ := f_int (j := 1) (y := y1) g1
    obtain ⟨n2, e2⟩ := f_int (j := 2) (y := y2) g2
    obtain ⟨n3, e3⟩ := f_int (j := 3) (y := y3) g3
    obtain ⟨n4, e4⟩ := f_bool (j := 4) (y := y4) g4
    refine ⟨⟨n0, n1, n2, n3, n4⟩, fun j u hj hu => ?_⟩
    match j, hj with
    | 0, _ => simp [crF] at hu; subst hu; exact e0
    | 1, _ => simp [crF] at hu; subst hu; exact e1
    | 2, _ => simp [crF] at hu; subst hu; exact e2
    | 3, _ => simp [crF] at hu; subst hu; exact e3
    | 4, _ => simp [crF] at hu; subst hu; exact e4
set_option maxRecDepth 100000 in
theorem open_Dg {v : Value} {d : DataW H} {p : List MemPlace} {b0 : Nat} (hv : Value.okWide Try.prog w .any b0 51 v) (h : DataW.Trod enc Try.prog w 0 (fun _ => true) true 51 v d p) (hlt : ∀ x ∈ p, x.block < w.heap.size)
    {ts : List TypeId} {ds : List (DataW H)} (hsz : (DataW.weightsEach Try.prog ts ds).all (· ≤ reachBytes) = true) {j : Nat} (hj : ts[j]? = some 51) (hd : ds[j]? = some d) :
    ∃ g : Dg, IsDg w w.heap.size v g := by
  obtain ⟨v0, v1, y0, y1, n, rfl, rfl, rfl, t0, t1⟩ := open_agg2 Try.underlying51 (by kernel_rfl) (by kernel_rfl) hv h
  obtain ⟨l, e1, _, _⟩ := DataW.trod_int Try.underlying3 t1
  injection e1 with e1
  subst e1
  have hs := fun es sp (hp : y0.1 = .slice es sp) => sized_in hsz hj hd Try.underlying51 (i := 0) rfl (by rw [List.getElem?_cons_zero, hp]) Try.underlying49
  rcases open_slice Try.underlying49 t0 with ⟨hcs, hx⟩ | ⟨a, len, cap, m, k, D, Pl, hcs, hb, hl, hm, hmm, hx, hi⟩
  · injection hcs with hcs
    subst hcs
    exact ⟨⟨[], l⟩, none, 0, rfl, Nat.le_refl _, Rd.nil_⟩
  · injection hcs with hcs
    subst hcs
    have hk : Try.prog.cellsOf 111 = 5 := by kernel_rfl
    have hby : Try.prog.bytesOf 111 = 40 := by kernel_rfl
    have hs := hs _ _ (by rw [hx])
    rw [hby] at hs
    simp only [if_true] at hmm
    subst hmm
    simp only [List.length_map, List.length_range, reachBytes] at hs
    obtain ⟨F, hF⟩ := pick (m := m) (Q := fun i (c : Cr) => ∀ j u, j < 5 → (crF c)[j]? = some u → w.cell? (a.add (i * 5 + j)) = some u) (fun i him => by
      obtain ⟨cs', hc, ht'⟩ := hi i him
      rw [hk] at hc
      obtain ⟨c, hc'⟩ := open_cr ht'
      obtain ⟨_, hcl, hat⟩ := World.cells?_some hc
      refine ⟨c, fun j u hj hu => ?_⟩
      rw [← Go.Deep.add_add, hat j hj]
      exact hc' j u hj hu)
    have hlen : ((List.range len).map F).length = len := by simp
    refine ⟨⟨(List.range len).map F, l⟩, some a, m, by rw [hlen], by rw [hlen]; exact hl, ?_⟩
    refine ⟨len5 _, by show _ * 40 ≤ _; rw [hlen]; omega, fun h0 => ?_⟩
    rw [hlen] at h0
    obtain ⟨b, off, spot⟩ := a
    have hspot : spot = none := by simpa [Addr.add] using World.cell?_spot (hF 0 (by omega) 0 _ (by omega) rfl)
    subst hspot
    refine ⟨b, off, rfl, hlt (.cell b off) (List.mem_append_left _ (by rw [hx]; exact List.mem_append_left _ (MemPlace.mem_row.2 ⟨0, by rw [hk]; omega, by simp⟩))), fun i u hu => ?_⟩
    have hil : i < len * 5 := by
      have := (List.getElem?_eq_some_iff.1 hu).1
      rw [len5, hlen] at this
      exact this
    have hu' := hu
    rw [show i = (i / 5) * 5 + i % 5 by omega] at hu'
    rw [show (5 : Nat) = codCr.k from rfl, flat_get codCr.hf (by rw [hlen]; show i / 5 < len; omega) (by show i % 5 < 5; omega)] at hu'
    have := hF (i / 5) (by omega) (i % 5) u (by omega) (by simpa [codCr] using hu')
    rw [show (i / 5) * 5 + i % 5 = i by omega] at this
    rcases Nat.eq_zero_or_pos i with h1 | h1
    · subst h1; simpa [Addr.add] using this
    · simpa [Addr.add, show ¬ i = 0 by omega] using this
end
end Go.Proofs.Ytkcighnochjlgaa
namespace Go.Proofs.Ytkcighnochjlgaa
open Go.ChangeShapes Go.WideShapes Go.ChangeAt Go.RowKit
theorem RdA.of_sl {α : Type} {C : Cd α} {w : World} {B c : Nat} {A : Option Addr} {xs : List α} (hc : xs.length ≤ c) (hk : 0 < C.k) (h : Sl w B C.k C.u8 A xs.length (xs.flatMap C.f)) : RdA C (hp w) A c xs := by
  refine ⟨hc, h.2.1, fun h0 => ?_⟩
  obtain ⟨b, off, rfl, _, hat⟩ := h.2.2 h0
  refine ⟨rfl, ?_⟩
  have hlen : 0 < (xs.flatMap C.f).length := by rw [flat_len C.hf]; exact Nat.mul_pos h0 hk
  have h1 := hat 0 _ (List.getElem?_eq_getElem hlen)
  show ∃ cs T fz, w.heap[b]? = some (.cells cs T fz) ∧ ∀ j u, (xs.flatMap C.f)[j]? = some u → cs[off + j]? = some u
  unfold World.cell? at h1
  split at h1
  · rename_i cs T fz hb
    refine ⟨cs, T, fz, hb, fun j u hu => ?_⟩
    have := hat j u hu
    rw [cell_of_row w b _ cs T fz hb] at this
    exact this
  · cases h1
theorem IsDg.rd {w : World} {B : Nat} {v : Value} {d : Dg} (h : IsDg w B v d) : ∃ A c, v = .agg [.slice A d.crs.length c, .int .i64 d.loops].toArray ∧ RdA cdCr (hp w) A c d.crs := by
  obtain ⟨A, c, rfl, hc, h⟩ := h
  exact ⟨A, c, rfl, RdA.of_sl (C := cdCr) hc (by decide) h⟩
end Go.Proofs.Ytkcighnochjlgaa
namespace Go.Proofs.Ytkcighnochjlgaa
open Go.ChangeShapes Go.WideShapes Go.ChangeAt Go.RowKit
theorem lawAlexTells (u : Value) (a : Dg) (W : World) (ha : IsDg W W.heap.size u a) :
    Calls Try.prog 8 #[u] W fun e W' => e = .returned (.bool true) ∧ Below W.heap.size W W' := by
  obtain ⟨A, c, rfl, ha'⟩ := ha.rd
  exact law_of_ct (AlexTells_t a ha' (SH.start W))
set_option maxRecDepth 100000 in
theorem alexTells_lifted (os : Os) (started : os.Started) (H : Type) (enc : TypeId × Value → H) :
    ReturnsInHanded {} Try.checked os 8 .any (Rows.alexTellsSpec.pre6 enc Try.prog Try.f8 Rows.alexTellsRow.domain false) (Rows.alexTellsSpec.post enc Try.prog Try.f8 false true false false) := by
  refine law_lift (C := Try.checked) (tb := 4) (by kernel_rfl) started (by kernel_rfl) Try.func8
    (ChangeSpec.witness6 (enc := enc) (C := Try.checked) false ⟨#[], #[.agg #[.slice none 0 0, .int .i64 0]], []⟩ 8 (by kernel_rfl) (by kernel_rfl) (by kernel_rfl) (by kernel_rfl))
    rfl (by kernel_rfl) (by kernel_rfl) rfl Try.underlying4 ?_ ?_
  · intro ds hds
    match ds, hds with
    | [d0], _ => rfl
  · intro W base args ds p hval hA _ hlt hsz
    rw [Try.params8] at hA hval hsz
    obtain ⟨v0, vs0, d0, ds0, p0, q0, hargs, rfl, rfl, h0, r0⟩ := trodAll_cons hA
    obtain ⟨rfl, rfl, rfl⟩ := trodAll_nil r0
    obtain rfl : args = #[v0] := by cases args; simp_all
    obtain ⟨a0, i0⟩ := open_Dg (hval 0 51 v0 rfl rfl) h0 (fun x hx => hlt x (by simp [hx])) hsz (j := 0) rfl rfl
    exact lawAlexTells v0 a0 W i0
theorem alexTells_holds : Rows.AlexTellsSaid :=
  OpenClaim.holds_of_wide 8 Try.f8 rfl rfl rfl rfl rfl rfl rfl ⟨rfl, rfl, rfl, rfl, rfl⟩ rfl rfl rfl rfl rfl (by kernel_rfl) Try.func8 (by kernel_rfl)
    (of_decide_eq_true (by kernel_rfl)) (by unfold Func.isWrapper; first | (rw [if_pos (by decide +kernel)]; kernel_rfl) | (rw [if_neg (by decide +kernel)]; exact ⟨rfl, rfl⟩))
    (fun os started H enc _ => alexTells_lifted os started H enc)
#print axioms alexTells_holds
end Go.Proofs.Ytkcighnochjlgaa
