/- Part 4 of the proof of the law PolyReads: the walks through its functions and the plain laws that they need. -/
import Derived.Test.YtklcecpjgingpaaDoorPrZ3
set_option linter.unusedSimpArgs false
set_option linter.unusedVariables false
namespace Go.Proofs.YtklcecpjgingpaaDoor
open Go.ChangeShapes Go.WideShapes Go.ChangeAt Go.RowKit
noncomputable def absR_n0 : Code := Tryd.f34.body.getD .skip
noncomputable def absR_n1 : Code := cL absR_n0
noncomputable def absR_n2 : Code := cR absR_n0
noncomputable def absR_n3 : Code := cL absR_n2
noncomputable def absR_n4 : Code := cR absR_n2
noncomputable def absR_n5 : Code := cL absR_n3
noncomputable def absR_n6 : Code := cR absR_n3
noncomputable def absR_n7 : Code := cL absR_n6
noncomputable def absR_n8 : Code := cR absR_n6
noncomputable def absR_n9 : Code := cL absR_n7
noncomputable def absR_n10 : Code := cR absR_n7
noncomputable def absR_n11 : Code := cL absR_n4
noncomputable def absR_n12 : Code := cR absR_n4
set_option maxRecDepth 10000 in
theorem absR_q {w : World} {M : Hp} {X : Fr} (v : Int) (hv : -1000000 ≤ v ∧ v ≤ 1000000) (S : SH w M X []) : Cq Tryd.prog 34 [.int .i64 v] w M X (fun u => u = .int .i64 (max v (-v))) := by
 unfold Cq
 refine calls_in (b := absR_n0) Tryd.func34 rfl Tryd.ntmps34 rfl (fun C hC => ?_)
 refine ws_sub [(0, _)] ⟨rfl, trivial⟩ ?_
 refine ws_seqN absR_n1 absR_n2 rfl rfl rfl ?_
 refine ws_region rfl ?_
 refine wla 0 1 rfl rfl rfl rfl rfl rfl rfl ?_
 refine wl_end rfl ?_
 refine nm_sub [(0, _)] ⟨rfl, trivial⟩ ?_
 refine nm_thn ?_
 refine ws_seqN absR_n3 absR_n4 rfl rfl rfl ?_
 refine ws_seqN absR_n5 absR_n6 rfl rfl rfl ?_
 refine ws_region rfl ?_
 refine wlm 0 1 rfl rfl rfl rfl rfl rfl rfl ?_
 refine wlo 1 2 rfl rfl rfl (wo_run rfl rfl (run_lss rfl rfl rfl) ?_)
 refine wl_end rfl ?_
 refine nm_sub [(0, _), (4, _)] ⟨rfl, rfl, trivial⟩ ?_
 refine nm_thn ?_
 refine ws_condN absR_n7 absR_n8 rfl rfl rfl rfl (fun hb4 => ?_) (fun hb4 => ?_)
 ·replace hb4 := of_decide_eq_true hb4
  refine ws_seqN absR_n9 absR_n10 rfl rfl rfl ?_
  refine ws_region rfl ?_
  refine wlm 0 1 rfl rfl rfl rfl rfl rfl rfl ?_
  refine wlo 1 2 rfl rfl rfl (wo_run rfl rfl (run_neg rfl rfl (by first | omega | (simp only [lens]; omega))) ?_)
  refine wla 2 3 rfl rfl rfl rfl rfl rfl rfl ?_
  refine wl_end rfl ?_
  refine nm_sub [(2, _)] ⟨rfl, trivial⟩ ?_
  refine nm_thn ?_
  refine ws_ret hC [_] rfl rfl ⟨rfl, trivial⟩ ?_
  exact ⟨_, rfl, (S.pick [] [] (by decide) trivial), (congrArg (Value.int .i64) (by omega))⟩
 ·replace hb4 := of_decide_eq_false hb4
  refine ws_skip rfl ?_
  refine nm_sub [(0, _)] ⟨rfl, trivial⟩ ?_
  refine nm_thn ?_
  refine ws_seqN absR_n11 absR_n12 rfl rfl rfl ?_
  refine ws_region rfl ?_
  refine wlm 0 1 rfl rfl rfl rfl rfl rfl rfl ?_
  refine wla 1 2 rfl rfl rfl rfl rfl rfl rfl ?_
  refine wl_end rfl ?_
  refine nm_sub [(2, _)] ⟨rfl, trivial⟩ ?_
  refine nm_thn ?_
  refine ws_ret hC [_] rfl rfl ⟨rfl, trivial⟩ ?_
  exact ⟨_, rfl, (S.pick [] [] (by decide) trivial), (congrArg (Value.int .i64) (by omega))⟩
noncomputable def PolyText_n0 : Code := Tryd.f18.body.getD .skip
noncomputable def PolyText_n1 : Code := cL PolyText_n0
noncomputable def PolyText_n2 : Code := cR PolyText_n0
noncomputable def PolyText_n3 : Code := cL PolyText_n2
noncomputable def PolyText_n4 : Code := cR PolyText_n2
noncomputable def PolyText_n5 : Code := cL PolyText_n3
noncomputable def PolyText_n6 : Code := cR PolyText_n3
noncomputable def PolyText_n7 : Code := cL PolyText_n6
noncomputable def PolyText_n8 : Code := cR PolyText_n6
noncomputable def PolyText_n9 : Code := cL PolyText_n7
noncomputable def PolyText_n10 : Code := cR PolyText_n7
noncomputable def PolyText_n11 : Code := cL PolyText_n4
noncomputable def PolyText_n12 : Code := cR PolyText_n4
noncomputable def PolyText_n13 : Code := cL PolyText_n12
noncomputable def PolyText_n14 : Code := cR PolyText_n12
noncomputable def PolyText_n15 : Code := cL PolyText_n13
noncomputable def PolyText_n16 : Code := cR PolyText_n13
noncomputable def PolyText_n17 : Code := cL PolyText_n16
noncomputable def PolyText_n18 : Code := cL PolyText_n17
noncomputable def PolyText_n19 : Code := cL PolyText_n18
noncomputable def PolyText_n20 : Code := cR PolyText_n18
noncomputable def PolyText_n21 : Code := cL PolyText_n19
noncomputable def PolyText_n22 : Code := cR PolyText_n19
noncomputable def PolyText_n23 : Code := cL PolyText_n22
noncomputable def PolyText_n24 : Code := cR PolyText_n22
noncomputable def PolyText_n25 : Code := cL PolyText_n20
noncomputable def PolyText_n26 : Code := cR PolyText_n20
noncomputable def PolyText_n27 : Code := cL PolyText_n25
noncomputable def PolyText_n28 : Code := cL PolyText_n27
noncomputable def PolyText_n29 : Code := cR PolyText_n27
noncomputable def PolyText_n30 : Code := cL PolyText_n29
noncomputable def PolyText_n31 : Code := cR PolyText_n29
noncomputable def PolyText_n32 : Code := cL PolyText_n30
noncomputable def PolyText_n33 : Code := cR PolyText_n30
noncomputable def PolyText_n34 : Code := cL PolyText_n33
noncomputable def PolyText_n35 : Code := cR PolyText_n33
noncomputable def PolyText_n36 : Code := cL PolyText_n31
noncomputable def PolyText_n37 : Code := cR PolyText_n31
noncomputable def PolyText_n38 : Code := cL PolyText_n36
noncomputable def PolyText_n39 : Code := cR PolyText_n36
noncomputable def PolyText_n40 : Code := cL PolyText_n39
noncomputable def PolyText_n41 : Code := cR PolyText_n39
noncomputable def PolyText_n42 : Code := cL PolyText_n37
noncomputable def PolyText_n43 : Code := cR PolyText_n37
noncomputable def PolyText_n44 : Code := cL PolyText_n42
noncomputable def PolyText_n45 : Code := cR PolyText_n42
noncomputable def PolyText_n46 : Code := cL PolyText_n45
noncomputable def PolyText_n47 : Code := cR PolyText_n45
noncomputable def PolyText_n48 : Code := cL PolyText_n43
noncomputable def PolyText_n49 : Code := cR PolyText_n43
noncomputable def PolyText_n50 : Code := cL PolyText_n49
noncomputable def PolyText_n51 : Code := cR PolyText_n49
noncomputable def PolyText_n52 : Code := cL PolyText_n50
noncomputable def PolyText_n53 : Code := cR PolyText_n50
noncomputable def PolyText_n54 : Code := cL PolyText_n53
noncomputable def PolyText_n55 : Code := cR PolyText_n53
noncomputable def PolyText_n56 : Code := cL PolyText_n51
noncomputable def PolyText_n57 : Code := cR PolyText_n51
noncomputable def PolyText_n58 : Code := cL PolyText_n57
noncomputable def PolyText_n59 : Code := cR PolyText_n57
noncomputable def PolyText_n60 : Code := cL PolyText_n59
noncomputable def PolyText_n61 : Code := cR PolyText_n59
noncomputable def PolyText_n62 : Code := cL PolyText_n61
noncomputable def PolyText_n63 : Code := cR PolyText_n61
noncomputable def PolyText_n64 : Code := cL PolyText_n63
noncomputable def PolyText_n65 : Code := cR PolyText_n63
noncomputable def PolyText_n66 : Code := cL PolyText_n55
noncomputable def PolyText_n67 : Code := cR PolyText_n55
noncomputable def PolyText_n68 : Code := cL PolyText_n67
noncomputable def PolyText_n69 : Code := cR PolyText_n67
noncomputable def PolyText_n70 : Code := cL PolyText_n14
noncomputable def PolyText_n71 : Code := cR PolyText_n14
set_option maxHeartbeats 4000000 in
set_option maxRecDepth 10000 in
theorem PolyText_q {w : World} {M : Hp} {X : Fr} (a : List Tm) {aA : Option Addr} {ac : Nat} (ha : RdA cdTm (M.un X.h) aA ac a) (hok : ∀ i, i < a.length → okT a i) (hal : a.length ≤ 64) (S : SH w M X []) : Cq Tryd.prog 18 [.slice aA a.length ac] w M X (fun u => u = .string (sB (texT a))) := by
 unfold Cq
 have rmha : a.length * 16 ≤ 140737488355328 := ha.room
 refine calls_in (b := PolyText_n0) Tryd.func18 rfl Tryd.ntmps18 rfl (fun C hC => ?_)
 refine ws_sub [(0, _)] ⟨rfl, trivial⟩ ?_
 refine ws_seqN PolyText_n1 PolyText_n2 rfl rfl rfl ?_
 refine ws_region rfl ?_
 refine wla 0 1 rfl rfl rfl rfl rfl rfl rfl ?_
 refine wl_end rfl ?_
 refine nm_sub [(0, _)] ⟨rfl, trivial⟩ ?_
 refine nm_thn ?_
 refine ws_seqN PolyText_n3 PolyText_n4 rfl rfl rfl ?_
 refine ws_seqN PolyText_n5 PolyText_n6 rfl rfl rfl ?_
 refine ws_region rfl ?_
 refine wlm 0 1 rfl rfl rfl rfl rfl rfl rfl ?_
 refine wlo 1 2 rfl rfl rfl (wo_run rfl rfl (run_len rfl rfl rfl rfl rfl rfl Tryd.underlying22) ?_)
 refine wlo 2 3 rfl rfl rfl (wo_run rfl rfl (run_eql rfl rfl rfl) ?_)
 refine wl_end rfl ?_
 refine nm_sub [(0, _), (9, _)] ⟨rfl, rfl, trivial⟩ ?_
 refine nm_thn ?_
 refine ws_condN PolyText_n7 PolyText_n8 rfl rfl rfl rfl (fun hb9 => ?_) (fun hb9 => ?_)
 ·replace hb9 := of_decide_eq_true hb9
  refine ws_seqN PolyText_n9 PolyText_n10 rfl rfl rfl ?_
  refine ws_region rfl ?_
  refine wla 0 1 rfl rfl rfl rfl rfl rfl rfl ?_
  refine wl_end rfl ?_
  refine nm_sub [(2, _)] ⟨rfl, trivial⟩ ?_
  refine nm_thn ?_
  refine ws_ret hC [_] rfl rfl ⟨rfl, trivial⟩ ?_
  exact ⟨_, rfl, (S.pick [] [] (by decide) trivial), (by unfold texT; rw [if_pos (by omega)]; rfl)⟩
 ·replace hb9 := of_decide_eq_false hb9
  refine ws_skip rfl ?_
  refine nm_sub [(0, _)] ⟨rfl, trivial⟩ ?_
  refine nm_thn ?_
  refine ws_seqN PolyText_n11 PolyText_n12 rfl rfl rfl ?_
  refine ws_region rfl ?_
  refine wla 0 1 rfl rfl rfl rfl rfl rfl rfl ?_
  refine wl_end rfl ?_
  refine nm_thn ?_
  refine ws_seqN PolyText_n13 PolyText_n14 rfl rfl rfl ?_
  refine ws_seqN PolyText_n15 PolyText_n16 rfl rfl rfl ?_
  refine ws_region rfl ?_
  refine wla 0 1 rfl rfl rfl rfl rfl rfl rfl ?_
  refine wl_end rfl ?_
  refine nm_thn ?_
  refine ws_blockN PolyText_n17 0 rfl rfl rfl ?_
  refine ws_loopE (fun mx_ ax_ wx_ => ∃ (i : Nat) (s9 : List UInt8), mx_ = a.length - i ∧ Env 81 [(0, .slice aA a.length ac), (3, .string (sB s9)), (4, .int .i64 (i : Int))] ax_ ∧ SH wx_ M X [] ∧ i ≤ a.length ∧ s9 = polT a i) rfl ?_ ?_
  ·intro ax_ hax_
   refine ⟨_, ⟨0, ([] : List UInt8), rfl, hax_.sub ⟨rfl, rfl, rfl, trivial⟩, S.pick [] [] (by decide) trivial, ?hq1f0, ?hq1f1⟩⟩
   case hq1f0 => omega
   case hq1f1 => rfl
  ·rintro m1 a1 w1 ⟨i, s9, rfl, he1, S1, hi, hs9⟩
   clear S
   refine ws_in he1 (c := PolyText_n18) rfl ?_
   clear he1 a1
   refine ws_seqN PolyText_n19 PolyText_n20 rfl rfl rfl ?_
   refine ws_seqN PolyText_n21 PolyText_n22 rfl rfl rfl ?_
   refine ws_region rfl ?_
   refine wlm 0 1 rfl rfl rfl rfl rfl rfl rfl ?_
   refine wlm 1 2 rfl rfl rfl rfl rfl rfl rfl ?_
   refine wlo 2 3 rfl rfl rfl (wo_run rfl rfl (run_len rfl rfl rfl rfl rfl rfl Tryd.underlying22) ?_)
   refine wlo 3 4 rfl rfl rfl (wo_run rfl rfl (run_lss rfl rfl rfl) ?_)
   refine wl_end rfl ?_
   refine nm_sub [(0, _), (3, _), (4, _), (13, _)] ⟨rfl, rfl, rfl, rfl, trivial⟩ ?_
   refine nm_thn ?_
   refine ws_condN PolyText_n23 PolyText_n24 rfl rfl rfl rfl (fun hb13 => ?_) (fun hb13 => ?_)
   ·replace hb13 := of_decide_eq_true hb13
    refine ws_skip rfl ?_
    refine nm_sub [(0, _), (3, _), (4, _)] ⟨rfl, rfl, rfl, trivial⟩ ?_
    refine nm_thn ?_
    refine ws_seqN PolyText_n25 PolyText_n26 rfl rfl rfl ?_
    refine ws_blockN PolyText_n27 1 rfl rfl rfl ?_
    refine ws_seqN PolyText_n28 PolyText_n29 rfl rfl rfl ?_
    refine ws_region rfl ?_
    refine wlm 0 1 rfl rfl rfl rfl rfl rfl rfl ?_
    refine wlm 1 2 rfl rfl rfl rfl rfl rfl rfl ?_
    refine wlo 2 3 rfl rfl rfl (wo_run rfl rfl (run_indexM (C := cdTm) i rfl rfl rfl sl22 (by first | rfl | omega) ha (by first | omega | (simp only [lens]; omega))) ?_)
    refine wlo 3 4 rfl rfl rfl (wo_run rfl rfl (run_loadN (us := [_, _]) rfl rfl Tryd.underlying38 rfl sz38 (ha.cellsAt S1.um (e := i) (by first | omega | (simp only [lens]; omega)) (j := 0) ⟨rfl, rfl, trivial⟩)) ?_)
    refine wlo 4 5 rfl rfl rfl (wo_alloc (l := [_, _]) rfl rfl rfl zr38 rfl S1 ?_)
    intro gb1 w2 S2; clear S1
    refine wlo 5 6 rfl rfl rfl (wo_storeB (i := 0) (us := [_, _]) (l' := [_, _]) (H' := [_]) rfl rfl S2 rfl rfl rfl rfl sz38 rfl rfl rfl rfl ?_)
    intro w3 S3; clear S2
    refine wl_end rfl ?_
    refine nm_sub [(0, _), (3, _), (4, _), (5, _)] ⟨rfl, rfl, rfl, rfl, trivial⟩ ?_
    refine nm_thn ?_
    refine ws_seqN PolyText_n30 PolyText_n31 rfl rfl rfl ?_
    refine ws_seqN PolyText_n32 PolyText_n33 rfl rfl rfl ?_
    obtain ⟨hoe, hoc, hnz, _⟩ := hok i (by omega)
    have hsl := polT_len hok i (by omega)
    rw [← hs9] at hsl
    have hnl := numT_len hoc
    unfold numT at hnl
    have hil := itoa8 (v := (ga a i).e) (by omega)
    refine ws_region rfl ?_
    refine wlo 0 1 rfl rfl rfl (wo_run rfl rfl (run_fieldAddr rfl rfl Tryd.underlying38 rfl (ce3) (nf3)) ?_)
    refine wlo 1 2 rfl rfl rfl (wo_run rfl rfl (run_load1 rfl rfl Tryd.underlying3 rfl (S3.boxc (i := 0) rfl rfl)) ?_)
    refine wlo 2 3 rfl rfl rfl (wo_run rfl rfl (run_lss rfl rfl rfl) ?_)
    refine wlm 3 4 rfl rfl rfl rfl rfl rfl rfl ?_
    refine wl_split (t := 23) rfl (fun hg23 => ?_) (fun hg23 => ?_)
    ·replace hg23 := of_decide_eq_true hg23
     refine wl_opG (k := 4) (k' := 5) rfl rfl ⟨_, _, _, rfl, rfl, rfl, rfl⟩ rfl (wo_run rfl rfl (run_move rfl rfl) ?_)
     refine wl_opG (k := 5) (k' := 6) rfl rfl ⟨_, _, _, rfl, rfl, rfl, rfl⟩ rfl (wo_run rfl rfl (run_eql rfl rfl rfl) ?_)
     refine wlo 6 7 rfl rfl rfl (wo_run rfl rfl (run_pickT rfl rfl rfl) ?_)
     refine wl_end rfl ?_
     refine nm_sub [(0, _), (3, _), (4, _), (5, _), (26, _)] ⟨rfl, rfl, rfl, rfl, rfl, trivial⟩ ?_
     refine nm_thn ?_
     refine ws_condN PolyText_n34 PolyText_n35 rfl rfl rfl rfl (fun hb26 => ?_) (fun hb26 => ?_)
     ·replace hb26 := of_decide_eq_true hb26
      refine ws_region rfl ?_
      refine wlm 0 1 rfl rfl rfl rfl rfl rfl rfl ?_
      refine wlo 1 2 rfl rfl rfl (wo_run rfl rfl (run_addS rfl rfl rfl ((by (try simp only [List.length_append, List.length_cons, List.length_nil]); first | omega | (simp only [lens]; omega)))) ?_)
      refine wla 2 3 rfl rfl rfl rfl rfl rfl rfl ?_
      refine wl_end rfl ?_
      refine nm_sub [(0, _), (3, _), (4, _), (5, _)] ⟨rfl, rfl, rfl, rfl, trivial⟩ ?_
      refine nm_thn ?_
      refine ws_seqN PolyText_n36 PolyText_n37 rfl rfl rfl ?_
      refine ws_seqN PolyText_n38 PolyText_n39 rfl rfl rfl ?_
      refine ws_region rfl ?_
      refine wlo 0 1 rfl rfl rfl (wo_run rfl rfl (run_fieldAddr rfl rfl Tryd.underlying38 rfl (ce3) (nf3)) ?_)
      refine wlo 1 2 rfl rfl rfl (wo_run rfl rfl (run_load1 rfl rfl Tryd.underlying3 rfl (S3.boxc (i := 0) rfl rfl)) ?_)
      refine wlo 2 3 rfl rfl rfl (wo_run rfl rfl (run_lss rfl rfl rfl) ?_)
      refine wlm 3 4 rfl rfl rfl rfl rfl rfl rfl ?_
      refine wl_split (t := 32) rfl (fun hg32 => ?_) (fun hg32 => ?_)
      ·replace hg32 := of_decide_eq_true hg32
       refine wl_opG (k := 4) (k' := 5) rfl rfl ⟨_, _, _, rfl, rfl, rfl, rfl⟩ rfl (wo_run rfl rfl (run_move rfl rfl) ?_)
       refine wl_opG (k := 5) (k' := 6) rfl rfl ⟨_, _, _, rfl, rfl, rfl, rfl⟩ rfl (wo_run rfl rfl (run_gtr rfl rfl rfl) ?_)
       refine wlo 6 7 rfl rfl rfl (wo_run rfl rfl (run_pickT rfl rfl rfl) ?_)
       refine wl_end rfl ?_
       refine nm_sub [(0, _), (3, _), (4, _), (5, _), (35, _)] ⟨rfl, rfl, rfl, rfl, rfl, trivial⟩ ?_
       refine nm_thn ?_
       refine ws_condN PolyText_n40 PolyText_n41 rfl rfl rfl rfl (fun hb35 => ?_) (fun hb35 => ?_)
       ·replace hb35 := of_decide_eq_true hb35
        exfalso; omega
       ·replace hb35 := of_decide_eq_false hb35
        refine ws_skip rfl ?_
        refine nm_sub [(0, _), (3, _), (4, _), (5, _)] ⟨rfl, rfl, rfl, rfl, trivial⟩ ?_
        refine nm_thn ?_
        refine ws_seqN PolyText_n42 PolyText_n43 rfl rfl rfl ?_
        refine ws_seqN PolyText_n44 PolyText_n45 rfl rfl rfl ?_
        refine ws_region rfl ?_
        refine wlo 0 1 rfl rfl rfl (wo_run rfl rfl (run_fieldAddr rfl rfl Tryd.underlying38 rfl (ce3) (nf3)) ?_)
        refine wlo 1 2 rfl rfl rfl (wo_run rfl rfl (run_load1 rfl rfl Tryd.underlying3 rfl (S3.boxc (i := 0) rfl rfl)) ?_)
        refine wlo 2 3 rfl rfl rfl (wo_run rfl rfl (run_gtr rfl rfl rfl) ?_)
        refine wlm 3 4 rfl rfl rfl rfl rfl rfl rfl ?_
        refine wl_split (t := 41) rfl (fun hg41 => ?_) (fun hg41 => ?_)
        ·replace hg41 := of_decide_eq_true hg41
         exfalso; omega
        ·replace hg41 := of_decide_eq_false hg41
         refine wl_no (k := 4) (k' := 5) (d := 42) rfl rfl ⟨_, _, _, rfl, rfl, rfl, rfl⟩ rfl rfl ?_
         refine wl_no (k := 5) (k' := 6) (d := 43) rfl rfl ⟨_, _, _, rfl, rfl, rfl, rfl⟩ rfl rfl ?_
         refine wlo 6 7 rfl rfl rfl (wo_run rfl rfl (run_pickF rfl rfl rfl) ?_)
         refine wl_end rfl ?_
         refine nm_sub [(0, _), (3, _), (4, _), (5, _), (44, _)] ⟨rfl, rfl, rfl, rfl, rfl, trivial⟩ ?_
         refine nm_thn ?_
         refine ws_condFN PolyText_n47 rfl rfl rfl ?_
         refine ws_skip rfl ?_
         refine nm_sub [(0, _), (3, _), (4, _), (5, _)] ⟨rfl, rfl, rfl, rfl, trivial⟩ ?_
         refine nm_thn ?_
         refine ws_seqN PolyText_n48 PolyText_n49 rfl rfl rfl ?_
         refine ws_region rfl ?_
         refine wlo 0 1 rfl rfl rfl (wo_run rfl rfl (run_fieldAddr rfl rfl Tryd.underlying38 rfl (ce3) (nf3)) ?_)
         refine wlo 1 2 rfl rfl rfl (wo_run rfl rfl (run_load1 rfl rfl Tryd.underlying3 rfl (S3.boxc (i := 0) rfl rfl)) ?_)
         refine wlo 2 3 rfl rfl rfl (wo_cq rfl rfl rfl rfl rfl rfl rfl cf34 S3 (absR_q ((ga a i).c) ((by omega)) S3.lend) ?_)
         rintro _ w4 S4 rfl; clear S3
         refine wlo 3 4 rfl rfl rfl (wo_cq rfl rfl rfl rfl rfl rfl rfl cf33 S4 (dec_u (max ((ga a i).c) (-((ga a i).c))) (by omega) S4.lend) ?_)
         rintro _ w5 S5 rfl; clear S4
         refine wla 4 5 rfl rfl rfl rfl rfl rfl rfl ?_
         refine wl_end rfl ?_
         refine nm_sub [(0, _), (3, _), (4, _), (5, _), (6, _)] ⟨rfl, rfl, rfl, rfl, rfl, trivial⟩ ?_
         refine nm_thn ?_
         refine ws_seqN PolyText_n50 PolyText_n51 rfl rfl rfl ?_
         refine ws_seqN PolyText_n52 PolyText_n53 rfl rfl rfl ?_
         refine ws_region rfl ?_
         refine wlo 0 1 rfl rfl rfl (wo_run rfl rfl (run_fieldAddr rfl rfl Tryd.underlying38 rfl (ce3) (nf3)) ?_)
         refine wlo 1 2 rfl rfl rfl (wo_run rfl rfl (run_load1 rfl rfl Tryd.underlying3 rfl (S5.boxc (i := 0) rfl rfl)) ?_)
         refine wlo 2 3 rfl rfl rfl (wo_run rfl rfl (run_neq rfl rfl rfl) ?_)
         refine wlm 3 4 rfl rfl rfl rfl rfl rfl rfl ?_
         refine wl_split (t := 54) rfl (fun hg54 => ?_) (fun hg54 => ?_)
         ·replace hg54 := of_decide_eq_true hg54
          refine wl_opG (k := 4) (k' := 5) rfl rfl ⟨_, _, _, rfl, rfl, rfl, rfl⟩ rfl (wo_run rfl rfl (run_move rfl rfl) ?_)
          refine wl_opG (k := 5) (k' := 6) rfl rfl ⟨_, _, _, rfl, rfl, rfl, rfl⟩ rfl (wo_run rfl rfl (run_eqlD rfl rfl rfl) ?_)
          refine wlo 6 7 rfl rfl rfl (wo_run rfl rfl (run_pickT rfl rfl rfl) ?_)
          refine wl_end rfl ?_
          refine nm_sub [(0, _), (3, _), (4, _), (5, _), (6, _), (57, _)] ⟨rfl, rfl, rfl, rfl, rfl, rfl, trivial⟩ ?_
          refine nm_thn ?_
          refine ws_condN PolyText_n54 PolyText_n55 rfl rfl rfl rfl (fun hb57 => ?_) (fun hb57 => ?_)
          ·replace hb57 := of_decide_eq_true hb57
           have hone : max (ga a i).c (-(ga a i).c) = 1 := by have := dec_one.1 hb57; omega
           refine ws_region rfl ?_
           refine wla 0 1 rfl rfl rfl rfl rfl rfl rfl ?_
           refine wl_end rfl ?_
           refine nm_sub [(0, _), (3, _), (4, _), (5, _), (6, _)] ⟨rfl, rfl, rfl, rfl, rfl, trivial⟩ ?_
           refine nm_thn ?_
           refine ws_seqN PolyText_n56 PolyText_n57 rfl rfl rfl ?_
           refine ws_region rfl ?_
           refine wlm 0 1 rfl rfl rfl rfl rfl rfl rfl ?_
           refine wlm 1 2 rfl rfl rfl rfl rfl rfl rfl ?_
           refine wlo 2 3 rfl rfl rfl (wo_run rfl rfl (run_addS rfl rfl rfl ((by (try simp only [List.length_append, List.length_cons, List.length_nil]); first | omega | (simp only [lens]; omega)))) ?_)
           refine wla 3 4 rfl rfl rfl rfl rfl rfl rfl ?_
           refine wl_end rfl ?_
           refine nm_sub [(0, _), (3, _), (4, _), (5, _)] ⟨rfl, rfl, rfl, rfl, trivial⟩ ?_
           refine nm_thn ?_
           refine ws_seqN PolyText_n58 PolyText_n59 rfl rfl rfl ?_
           refine ws_region rfl ?_
           refine wlo 0 1 rfl rfl rfl (wo_run rfl rfl (run_fieldAddr rfl rfl Tryd.underlying38 rfl (ce3) (nf3)) ?_)
           refine wlo 1 2 rfl rfl rfl (wo_run rfl rfl (run_load1 rfl rfl Tryd.underlying3 rfl (S5.boxc (i := 0) rfl rfl)) ?_)
           refine wlo 2 3 rfl rfl rfl (wo_run rfl rfl (run_eql rfl rfl rfl) ?_)
           refine wl_end rfl ?_
           refine nm_sub [(0, _), (3, _), (4, _), (5, _), (68, _)] ⟨rfl, rfl, rfl, rfl, rfl, trivial⟩ ?_
           refine nm_thn ?_
           refine ws_condN PolyText_n60 PolyText_n61 rfl rfl rfl rfl (fun hb68 => ?_) (fun hb68 => ?_)
           ·replace hb68 := of_decide_eq_true hb68
            refine ws_region rfl ?_
            refine wlm 0 1 rfl rfl rfl rfl rfl rfl rfl ?_
            refine wlo 1 2 rfl rfl rfl (wo_run rfl rfl (run_addS rfl rfl rfl ((by (try simp only [List.length_append, List.length_cons, List.length_nil]); first | omega | (simp only [lens]; omega)))) ?_)
            refine wla 2 3 rfl rfl rfl rfl rfl rfl rfl ?_
            refine wl_end rfl ?_
            refine nm_blk ?_
            refine nm_sub [(0, _), (3, _), (4, _)] ⟨rfl, rfl, rfl, trivial⟩ ?_
            refine nm_thn ?_
            refine ws_region rfl ?_
            refine wlm 0 1 rfl rfl rfl rfl rfl rfl rfl ?_
            refine wlo 1 2 rfl rfl rfl (wo_run rfl rfl (run_add rfl rfl rfl (by first | omega | (simp only [lens]; omega))) ?_)
            refine wla 2 3 rfl rfl rfl rfl rfl rfl rfl ?_
            refine wl_end rfl ?_
            refine nm_lp ?_
            intro ax_ hax_
            refine ⟨_, ?hq2m, ⟨i + 1, (((s9 ++ ([45] : List UInt8)) ++ ([] : List UInt8)) ++ ([116] : List UInt8)), rfl, hax_.sub ⟨rfl, rfl, rfl, trivial⟩, S5.pick [] [] (by decide) trivial, ?hq2f0, ?hq2f1⟩⟩
            case hq2f0 => omega
            case hq2f1 => (rw [polT, ← hs9]; (first | rw [sgT_00 (by omega) (by omega)] | rw [sgT_01 (by omega) (by omega)] | rw [sgT_10 (by omega) (by omega)] | rw [sgT_11 (by omega) (by omega)]); (first | rw [bodyT_0 (by omega)] | rw [bodyT_1 (by omega) (by omega)] | rw [bodyT_2 (by omega) (by omega)]); (first | rw [powT_1 (by omega)] | rw [powT_2 (by omega)] | skip); (try unfold numT); all_goals (first | rfl | (simp only [List.append_assoc, List.append_nil, List.nil_append]; done) | (simp only [List.append_assoc, List.append_nil, List.nil_append]; rfl)))
            case hq2m => omega
           ·replace hb68 := of_decide_eq_false hb68
            refine ws_seqN PolyText_n62 PolyText_n63 rfl rfl rfl ?_
            refine ws_region rfl ?_
            refine wlo 0 1 rfl rfl rfl (wo_run rfl rfl (run_fieldAddr rfl rfl Tryd.underlying38 rfl (ce3) (nf3)) ?_)
            refine wlo 1 2 rfl rfl rfl (wo_run rfl rfl (run_load1 rfl rfl Tryd.underlying3 rfl (S5.boxc (i := 0) rfl rfl)) ?_)
            refine wlo 2 3 rfl rfl rfl (wo_run rfl rfl (run_neq rfl rfl rfl) ?_)
            refine wl_end rfl ?_
            refine nm_sub [(0, _), (3, _), (4, _), (5, _), (73, _)] ⟨rfl, rfl, rfl, rfl, rfl, trivial⟩ ?_
            refine nm_thn ?_
            refine ws_condN PolyText_n64 PolyText_n65 rfl rfl rfl rfl (fun hb73 => ?_) (fun hb73 => ?_)
            ·replace hb73 := of_decide_eq_true hb73
             refine ws_region rfl ?_
             refine wlm 0 1 rfl rfl rfl rfl rfl rfl rfl ?_
             refine wlo 1 2 rfl rfl rfl (wo_run rfl rfl (run_addS rfl rfl rfl ((by (try simp only [List.length_append, List.length_cons, List.length_nil]); first | omega | (simp only [lens]; omega)))) ?_)
             refine wlo 2 3 rfl rfl rfl (wo_run rfl rfl (run_fieldAddr rfl rfl Tryd.underlying38 rfl (ce3) (nf3)) ?_)
             refine wlo 3 4 rfl rfl rfl (wo_run rfl rfl (run_load1 rfl rfl Tryd.underlying3 rfl (S5.boxc (i := 0) rfl rfl)) ?_)
             refine wlo 4 5 rfl rfl rfl (wo_cq rfl rfl rfl rfl rfl rfl rfl cf33 S5 (dec_z ((ga a i).e) (by omega) S5.lend) ?_)
             rintro _ w6 S6 rfl; clear S5
             refine wlo 5 6 rfl rfl rfl (wo_run rfl rfl (run_addS rfl rfl rfl ((by (try simp only [List.length_append, List.length_cons, List.length_nil]); first | omega | (simp only [lens]; omega)))) ?_)
             refine wla 6 7 rfl rfl rfl rfl rfl rfl rfl ?_
             refine wl_end rfl ?_
             refine nm_blk ?_
             refine nm_sub [(0, _), (3, _), (4, _)] ⟨rfl, rfl, rfl, trivial⟩ ?_
             refine nm_thn ?_
             refine ws_region rfl ?_
             refine wlm 0 1 rfl rfl rfl rfl rfl rfl rfl ?_
             refine wlo 1 2 rfl rfl rfl (wo_run rfl rfl (run_add rfl rfl rfl (by first | omega | (simp only [lens]; omega))) ?_)
             refine wla 2 3 rfl rfl rfl rfl rfl rfl rfl ?_
             refine wl_end rfl ?_
             refine nm_lp ?_
             intro ax_ hax_
             refine ⟨_, ?hq3m, ⟨i + 1, ((((s9 ++ ([45] : List UInt8)) ++ ([] : List UInt8)) ++ ([116, 94] : List UInt8)) ++ (Lib.itoa ((ga a i).e))), rfl, hax_.sub ⟨rfl, rfl, rfl, trivial⟩, S6.pick [] [] (by decide) trivial, ?hq3f0, ?hq3f1⟩⟩
             case hq3f0 => omega
             case hq3f1 => (rw [polT, ← hs9]; (first | rw [sgT_00 (by omega) (by omega)] | rw [sgT_01 (by omega) (by omega)] | rw [sgT_10 (by omega) (by omega)] | rw [sgT_11 (by omega) (by omega)]); (first | rw [bodyT_0 (by omega)] | rw [bodyT_1 (by omega) (by omega)] | rw [bodyT_2 (by omega) (by omega)]); (first | rw [powT_1 (by omega)] | rw [powT_2 (by omega)] | skip); (try unfold numT); all_goals (first | rfl | (simp only [List.append_assoc, List.append_nil, List.nil_append]; done) | (simp only [List.append_assoc, List.append_nil, List.nil_append]; rfl)))
             case hq3m => omega
            ·replace hb73 := of_decide_eq_false hb73
             exfalso; omega
          ·replace hb57 := of_decide_eq_false hb57
           have hone : ¬ max (ga a i).c (-(ga a i).c) = 1 := fun h => hb57 (dec_one.2 (by omega))
           refine ws_seqN PolyText_n66 PolyText_n67 rfl rfl rfl ?_
           refine ws_region rfl ?_
           refine wlo 0 1 rfl rfl rfl (wo_run rfl rfl (run_fieldAddr rfl rfl Tryd.underlying38 rfl (ce3) (nf3)) ?_)
           refine wlo 1 2 rfl rfl rfl (wo_run rfl rfl (run_load1 rfl rfl Tryd.underlying3 rfl (S5.boxc (i := 0) rfl rfl)) ?_)
           refine wlo 2 3 rfl rfl rfl (wo_run rfl rfl (run_neq rfl rfl rfl) ?_)
           refine wl_end rfl ?_
           refine nm_sub [(0, _), (3, _), (4, _), (5, _), (6, _), (60, _)] ⟨rfl, rfl, rfl, rfl, rfl, rfl, trivial⟩ ?_
           refine nm_thn ?_
           refine ws_condN PolyText_n68 PolyText_n69 rfl rfl rfl rfl (fun hb60 => ?_) (fun hb60 => ?_)
           ·replace hb60 := of_decide_eq_true hb60
            refine ws_region rfl ?_
            refine wlm 0 1 rfl rfl rfl rfl rfl rfl rfl ?_
            refine wlo 1 2 rfl rfl rfl (wo_run rfl rfl (run_addS rfl rfl rfl ((by (try simp only [List.length_append, List.length_cons, List.length_nil]); first | omega | (simp only [lens]; omega)))) ?_)
            refine wla 2 3 rfl rfl rfl rfl rfl rfl rfl ?_
            refine wl_end rfl ?_
            refine nm_sub [(0, _), (3, _), (4, _), (5, _), (6, _)] ⟨rfl, rfl, rfl, rfl, rfl, trivial⟩ ?_
            refine nm_thn ?_
            refine ws_seqN PolyText_n56 PolyText_n57 rfl rfl rfl ?_
            refine ws_region rfl ?_
            refine wlm 0 1 rfl rfl rfl rfl rfl rfl rfl ?_
            refine wlm 1 2 rfl rfl rfl rfl rfl rfl rfl ?_
            refine wlo 2 3 rfl rfl rfl (wo_run rfl rfl (run_addS rfl rfl rfl ((by (try simp only [List.length_append, List.length_cons, List.length_nil]); first | omega | (simp only [lens]; omega)))) ?_)
            refine wla 3 4 rfl rfl rfl rfl rfl rfl rfl ?_
            refine wl_end rfl ?_
            refine nm_sub [(0, _), (3, _), (4, _), (5, _)] ⟨rfl, rfl, rfl, rfl, trivial⟩ ?_
            refine nm_thn ?_
            refine ws_seqN PolyText_n58 PolyText_n59 rfl rfl rfl ?_
            refine ws_region rfl ?_
            refine wlo 0 1 rfl rfl rfl (wo_run rfl rfl (run_fieldAddr rfl rfl Tryd.underlying38 rfl (ce3) (nf3)) ?_)
            refine wlo 1 2 rfl rfl rfl (wo_run rfl rfl (run_load1 rfl rfl Tryd.underlying3 rfl (S5.boxc (i := 0) rfl rfl)) ?_)
            refine wlo 2 3 rfl rfl rfl (wo_run rfl rfl (run_eql rfl rfl rfl) ?_)
            refine wl_end rfl ?_
            refine nm_sub [(0, _), (3, _), (4, _), (5, _), (68, _)] ⟨rfl, rfl, rfl, rfl, rfl, trivial⟩ ?_
            refine nm_thn ?_
            refine ws_condN PolyText_n60 PolyText_n61 rfl rfl rfl rfl (fun hb68 => ?_) (fun hb68 => ?_)
            ·replace hb68 := of_decide_eq_true hb68
             refine ws_region rfl ?_
             refine wlm 0 1 rfl rfl rfl rfl rfl rfl rfl ?_
             refine wlo 1 2 rfl rfl rfl (wo_run rfl rfl (run_addS rfl rfl rfl ((by (try simp only [List.length_append, List.length_cons, List.length_nil]); first | omega | (simp only [lens]; omega)))) ?_)
             refine wla 2 3 rfl rfl rfl rfl rfl rfl rfl ?_
             refine wl_end rfl ?_
             refine nm_blk ?_
             refine nm_sub [(0, _), (3, _), (4, _)] ⟨rfl, rfl, rfl, trivial⟩ ?_
             refine nm_thn ?_
             refine ws_region rfl ?_
             refine wlm 0 1 rfl rfl rfl rfl rfl rfl rfl ?_
             refine wlo 1 2 rfl rfl rfl (wo_run rfl rfl (run_add rfl rfl rfl (by first | omega | (simp only [lens]; omega))) ?_)
             refine wla 2 3 rfl rfl rfl rfl rfl rfl rfl ?_
             refine wl_end rfl ?_
             refine nm_lp ?_
             intro ax_ hax_
             refine ⟨_, ?hq4m, ⟨i + 1, (((s9 ++ ([45] : List UInt8)) ++ ((Lib.decDigits (max ((ga a i).c) (-((ga a i).c))).toNat) ++ ([42] : List UInt8))) ++ ([116] : List UInt8)), rfl, hax_.sub ⟨rfl, rfl, rfl, trivial⟩, S5.pick [] [] (by decide) trivial, ?hq4f0, ?hq4f1⟩⟩
             case hq4f0 => omega
             case hq4f1 => (rw [polT, ← hs9]; (first | rw [sgT_00 (by omega) (by omega)] | rw [sgT_01 (by omega) (by omega)] | rw [sgT_10 (by omega) (by omega)] | rw [sgT_11 (by omega) (by omega)]); (first | rw [bodyT_0 (by omega)] | rw [bodyT_1 (by omega) (by omega)] | rw [bodyT_2 (by omega) (by omega)]); (first | rw [powT_1 (by omega)] | rw [powT_2 (by omega)] | skip); (try unfold numT); all_goals (first | rfl | (simp only [List.append_assoc, List.append_nil, List.nil_append]; done) | (simp only [List.append_assoc, List.append_nil, List.nil_append]; rfl)))
             case hq4m => omega
            ·replace hb68 := of_decide_eq_false hb68
             refine ws_seqN PolyText_n62 PolyText_n63 rfl rfl rfl ?_
             refine ws_region rfl ?_
             refine wlo 0 1 rfl rfl rfl (wo_run rfl rfl (run_fieldAddr rfl rfl Tryd.underlying38 rfl (ce3) (nf3)) ?_)
             refine wlo 1 2 rfl rfl rfl (wo_run rfl rfl (run_load1 rfl rfl Tryd.underlying3 rfl (S5.boxc (i := 0) rfl rfl)) ?_)
             refine wlo 2 3 rfl rfl rfl (wo_run rfl rfl (run_neq rfl rfl rfl) ?_)
             refine wl_end rfl ?_
             refine nm_sub [(0, _), (3, _), (4, _), (5, _), (73, _)] ⟨rfl, rfl, rfl, rfl, rfl, trivial⟩ ?_
             refine nm_thn ?_
             refine ws_condN PolyText_n64 PolyText_n65 rfl rfl rfl rfl (fun hb73 => ?_) (fun hb73 => ?_)
             ·replace hb73 := of_decide_eq_true hb73
              refine ws_region rfl ?_
              refine wlm 0 1 rfl rfl rfl rfl rfl rfl rfl ?_
              refine wlo 1 2 rfl rfl rfl (wo_run rfl rfl (run_addS rfl rfl rfl ((by (try simp only [List.length_append, List.length_cons, List.length_nil]); first | omega | (simp only [lens]; omega)))) ?_)
              refine wlo 2 3 rfl rfl rfl (wo_run rfl rfl (run_fieldAddr rfl rfl Tryd.underlying38 rfl (ce3) (nf3)) ?_)
              refine wlo 3 4 rfl rfl rfl (wo_run rfl rfl (run_load1 rfl rfl Tryd.underlying3 rfl (S5.boxc (i := 0) rfl rfl)) ?_)
              refine wlo 4 5 rfl rfl rfl (wo_cq rfl rfl rfl rfl rfl rfl rfl cf33 S5 (dec_z ((ga a i).e) (by omega) S5.lend) ?_)
              rintro _ w7 S7 rfl; clear S5
              refine wlo 5 6 rfl rfl rfl (wo_run rfl rfl (run_addS rfl rfl rfl ((by (try simp only [List.length_append, List.length_cons, List.length_nil]); first | omega | (simp only [lens]; omega)))) ?_)
              refine wla 6 7 rfl rfl rfl rfl rfl rfl rfl ?_
              refine wl_end rfl ?_
              refine nm_blk ?_
              refine nm_sub [(0, _), (3, _), (4, _)] ⟨rfl, rfl, rfl, trivial⟩ ?_
              refine nm_thn ?_
              refine ws_region rfl ?_
              refine wlm 0 1 rfl rfl rfl rfl rfl rfl rfl ?_
              refine wlo 1 2 rfl rfl rfl (wo_run rfl rfl (run_add rfl rfl rfl (by first | omega | (simp only [lens]; omega))) ?_)
              refine wla 2 3 rfl rfl rfl rfl rfl rfl rfl ?_
              refine wl_end rfl ?_
              refine nm_lp ?_
              intro ax_ hax_
              refine ⟨_, ?hq5m, ⟨i + 1, ((((s9 ++ ([45] : List UInt8)) ++ ((Lib.decDigits (max ((ga a i).c) (-((ga a i).c))).toNat) ++ ([42] : List UInt8))) ++ ([116, 94] : List UInt8)) ++ (Lib.itoa ((ga a i).e))), rfl, hax_.sub ⟨rfl, rfl, rfl, trivial⟩, S7.pick [] [] (by decide) trivial, ?hq5f0, ?hq5f1⟩⟩
              case hq5f0 => omega
              case hq5f1 => (rw [polT, ← hs9]; (first | rw [sgT_00 (by omega) (by omega)] | rw [sgT_01 (by omega) (by omega)] | rw [sgT_10 (by omega) (by omega)] | rw [sgT_11 (by omega) (by omega)]); (first | rw [bodyT_0 (by omega)] | rw [bodyT_1 (by omega) (by omega)] | rw [bodyT_2 (by omega) (by omega)]); (first | rw [powT_1 (by omega)] | rw [powT_2 (by omega)] | skip); (try unfold numT); all_goals (first | rfl | (simp only [List.append_assoc, List.append_nil, List.nil_append]; done) | (simp only [List.append_assoc, List.append_nil, List.nil_append]; rfl)))
              case hq5m => omega
             ·replace hb73 := of_decide_eq_false hb73
              exfalso; omega
           ·replace hb60 := of_decide_eq_false hb60
            exfalso; omega
         ·replace hg54 := of_decide_eq_false hg54
          refine wl_no (k := 4) (k' := 5) (d := 55) rfl rfl ⟨_, _, _, rfl, rfl, rfl, rfl⟩ rfl rfl ?_
          refine wl_no (k := 5) (k' := 6) (d := 56) rfl rfl ⟨_, _, _, rfl, rfl, rfl, rfl⟩ rfl rfl ?_
          refine wlo 6 7 rfl rfl rfl (wo_run rfl rfl (run_pickF rfl rfl rfl) ?_)
          refine wl_end rfl ?_
          refine nm_sub [(0, _), (3, _), (4, _), (5, _), (6, _), (57, _)] ⟨rfl, rfl, rfl, rfl, rfl, rfl, trivial⟩ ?_
          refine nm_thn ?_
          refine ws_condFN PolyText_n55 rfl rfl rfl ?_
          refine ws_seqN PolyText_n66 PolyText_n67 rfl rfl rfl ?_
          refine ws_region rfl ?_
          refine wlo 0 1 rfl rfl rfl (wo_run rfl rfl (run_fieldAddr rfl rfl Tryd.underlying38 rfl (ce3) (nf3)) ?_)
          refine wlo 1 2 rfl rfl rfl (wo_run rfl rfl (run_load1 rfl rfl Tryd.underlying3 rfl (S5.boxc (i := 0) rfl rfl)) ?_)
          refine wlo 2 3 rfl rfl rfl (wo_run rfl rfl (run_neq rfl rfl rfl) ?_)
          refine wl_end rfl ?_
          refine nm_sub [(0, _), (3, _), (4, _), (5, _), (6, _), (60, _)] ⟨rfl, rfl, rfl, rfl, rfl, rfl, trivial⟩ ?_
          refine nm_thn ?_
          refine ws_condN PolyText_n68 PolyText_n69 rfl rfl rfl rfl (fun hb60 => ?_) (fun hb60 => ?_)
          ·replace hb60 := of_decide_eq_true hb60
           exfalso; omega
          ·replace hb60 := of_decide_eq_false hb60
           refine ws_skip rfl ?_
           refine nm_sub [(0, _), (3, _), (4, _), (5, _), (6, _)] ⟨rfl, rfl, rfl, rfl, rfl, trivial⟩ ?_
           refine nm_thn ?_
           refine ws_seqN PolyText_n56 PolyText_n57 rfl rfl rfl ?_
           refine ws_region rfl ?_
           refine wlm 0 1 rfl rfl rfl rfl rfl rfl rfl ?_
           refine wlm 1 2 rfl rfl rfl rfl rfl rfl rfl ?_
           refine wlo 2 3 rfl rfl rfl (wo_run rfl rfl (run_addS rfl rfl rfl ((by (try simp only [List.length_append, List.length_cons, List.length_nil]); first | omega | (simp only [lens]; omega)))) ?_)
           refine wla 3 4 rfl rfl rfl rfl rfl rfl rfl ?_
           refine wl_end rfl ?_
           refine nm_sub [(0, _), (3, _), (4, _), (5, _)] ⟨rfl, rfl, rfl, rfl, trivial⟩ ?_
           refine nm_thn ?_
           refine ws_seqN PolyText_n58 PolyText_n59 rfl rfl rfl ?_
           refine ws_region rfl ?_
           refine wlo 0 1 rfl rfl rfl (wo_run rfl rfl (run_fieldAddr rfl rfl Tryd.underlying38 rfl (ce3) (nf3)) ?_)
           refine wlo 1 2 rfl rfl rfl (wo_run rfl rfl (run_load1 rfl rfl Tryd.underlying3 rfl (S5.boxc (i := 0) rfl rfl)) ?_)
           refine wlo 2 3 rfl rfl rfl (wo_run rfl rfl (run_eql rfl rfl rfl) ?_)
           refine wl_end rfl ?_
           refine nm_sub [(0, _), (3, _), (4, _), (5, _), (68, _)] ⟨rfl, rfl, rfl, rfl, rfl, trivial⟩ ?_
           refine nm_thn ?_
           refine ws_condN PolyText_n60 PolyText_n61 rfl rfl rfl rfl (fun hb68 => ?_) (fun hb68 => ?_)
           ·replace hb68 := of_decide_eq_true hb68
            exfalso; omega
           ·replace hb68 := of_decide_eq_false hb68
            refine ws_seqN PolyText_n62 PolyText_n63 rfl rfl rfl ?_
            refine ws_region rfl ?_
            refine wlo 0 1 rfl rfl rfl (wo_run rfl rfl (run_fieldAddr rfl rfl Tryd.underlying38 rfl (ce3) (nf3)) ?_)
            refine wlo 1 2 rfl rfl rfl (wo_run rfl rfl (run_load1 rfl rfl Tryd.underlying3 rfl (S5.boxc (i := 0) rfl rfl)) ?_)
            refine wlo 2 3 rfl rfl rfl (wo_run rfl rfl (run_neq rfl rfl rfl) ?_)
            refine wl_end rfl ?_
            refine nm_sub [(0, _), (3, _), (4, _), (5, _), (73, _)] ⟨rfl, rfl, rfl, rfl, rfl, trivial⟩ ?_
            refine nm_thn ?_
            refine ws_condN PolyText_n64 PolyText_n65 rfl rfl rfl rfl (fun hb73 => ?_) (fun hb73 => ?_)
            ·replace hb73 := of_decide_eq_true hb73
             exfalso; omega
            ·replace hb73 := of_decide_eq_false hb73
             refine ws_skip rfl ?_
             refine nm_blk ?_
             refine nm_sub [(0, _), (3, _), (4, _)] ⟨rfl, rfl, rfl, trivial⟩ ?_
             refine nm_thn ?_
             refine ws_region rfl ?_
             refine wlm 0 1 rfl rfl rfl rfl rfl rfl rfl ?_
             refine wlo 1 2 rfl rfl rfl (wo_run rfl rfl (run_add rfl rfl rfl (by first | omega | (simp only [lens]; omega))) ?_)
             refine wla 2 3 rfl rfl rfl rfl rfl rfl rfl ?_
             refine wl_end rfl ?_
             refine nm_lp ?_
             intro ax_ hax_
             refine ⟨_, ?hq6m, ⟨i + 1, ((s9 ++ ([45] : List UInt8)) ++ (Lib.decDigits (max ((ga a i).c) (-((ga a i).c))).toNat)), rfl, hax_.sub ⟨rfl, rfl, rfl, trivial⟩, S5.pick [] [] (by decide) trivial, ?hq6f0, ?hq6f1⟩⟩
             case hq6f0 => omega
             case hq6f1 => (rw [polT, ← hs9]; (first | rw [sgT_00 (by omega) (by omega)] | rw [sgT_01 (by omega) (by omega)] | rw [sgT_10 (by omega) (by omega)] | rw [sgT_11 (by omega) (by omega)]); (first | rw [bodyT_0 (by omega)] | rw [bodyT_1 (by omega) (by omega)] | rw [bodyT_2 (by omega) (by omega)]); (first | rw [powT_1 (by omega)] | rw [powT_2 (by omega)] | skip); (try unfold numT); all_goals (first | rfl | (simp only [List.append_assoc, List.append_nil, List.nil_append]; done) | (simp only [List.append_assoc, List.append_nil, List.nil_append]; rfl)))
             case hq6m => omega
      ·replace hg32 := of_decide_eq_false hg32
       exfalso; omega
     ·replace hb26 := of_decide_eq_false hb26
      refine ws_skip rfl ?_
      refine nm_sub [(0, _), (3, _), (4, _), (5, _)] ⟨rfl, rfl, rfl, rfl, trivial⟩ ?_
      refine nm_thn ?_
      refine ws_seqN PolyText_n36 PolyText_n37 rfl rfl rfl ?_
      refine ws_seqN PolyText_n38 PolyText_n39 rfl rfl rfl ?_
      refine ws_region rfl ?_
      refine wlo 0 1 rfl rfl rfl (wo_run rfl rfl (run_fieldAddr rfl rfl Tryd.underlying38 rfl (ce3) (nf3)) ?_)
      refine wlo 1 2 rfl rfl rfl (wo_run rfl rfl (run_load1 rfl rfl Tryd.underlying3 rfl (S3.boxc (i := 0) rfl rfl)) ?_)
      refine wlo 2 3 rfl rfl rfl (wo_run rfl rfl (run_lss rfl rfl rfl) ?_)
      refine wlm 3 4 rfl rfl rfl rfl rfl rfl rfl ?_
      refine wl_split (t := 32) rfl (fun hg32 => ?_) (fun hg32 => ?_)
      ·replace hg32 := of_decide_eq_true hg32
       refine wl_opG (k := 4) (k' := 5) rfl rfl ⟨_, _, _, rfl, rfl, rfl, rfl⟩ rfl (wo_run rfl rfl (run_move rfl rfl) ?_)
       refine wl_opG (k := 5) (k' := 6) rfl rfl ⟨_, _, _, rfl, rfl, rfl, rfl⟩ rfl (wo_run rfl rfl (run_gtr rfl rfl rfl) ?_)
       refine wlo 6 7 rfl rfl rfl (wo_run rfl rfl (run_pickT rfl rfl rfl) ?_)
       refine wl_end rfl ?_
       refine nm_sub [(0, _), (3, _), (4, _), (5, _), (35, _)] ⟨rfl, rfl, rfl, rfl, rfl, trivial⟩ ?_
       refine nm_thn ?_
       refine ws_condN PolyText_n40 PolyText_n41 rfl rfl rfl rfl (fun hb35 => ?_) (fun hb35 => ?_)
       ·replace hb35 := of_decide_eq_true hb35
        refine ws_region rfl ?_
        refine wlm 0 1 rfl rfl rfl rfl rfl rfl rfl ?_
        refine wlo 1 2 rfl rfl rfl (wo_run rfl rfl (run_addS rfl rfl rfl ((by (try simp only [List.length_append, List.length_cons, List.length_nil]); first | omega | (simp only [lens]; omega)))) ?_)
        refine wla 2 3 rfl rfl rfl rfl rfl rfl rfl ?_
        refine wl_end rfl ?_
        refine nm_sub [(0, _), (3, _), (4, _), (5, _)] ⟨rfl, rfl, rfl, rfl, trivial⟩ ?_
        refine nm_thn ?_
        refine ws_seqN PolyText_n42 PolyText_n43 rfl rfl rfl ?_
        refine ws_seqN PolyText_n44 PolyText_n45 rfl rfl rfl ?_
        refine ws_region rfl ?_
        refine wlo 0 1 rfl rfl rfl (wo_run rfl rfl (run_fieldAddr rfl rfl Tryd.underlying38 rfl (ce3) (nf3)) ?_)
        refine wlo 1 2 rfl rfl rfl (wo_run rfl rfl (run_load1 rfl rfl Tryd.underlying3 rfl (S3.boxc (i := 0) rfl rfl)) ?_)
        refine wlo 2 3 rfl rfl rfl (wo_run rfl rfl (run_gtr rfl rfl rfl) ?_)
        refine wlm 3 4 rfl rfl rfl rfl rfl rfl rfl ?_
        refine wl_split (t := 41) rfl (fun hg41 => ?_) (fun hg41 => ?_)
        ·replace hg41 := of_decide_eq_true hg41
         exfalso; omega
        ·replace hg41 := of_decide_eq_false hg41
         refine wl_no (k := 4) (k' := 5) (d := 42) rfl rfl ⟨_, _, _, rfl, rfl, rfl, rfl⟩ rfl rfl ?_
         refine wl_no (k := 5) (k' := 6) (d := 43) rfl rfl ⟨_, _, _, rfl, rfl, rfl, rfl⟩ rfl rfl ?_
         refine wlo 6 7 rfl rfl rfl (wo_run rfl rfl (run_pickF rfl rfl rfl) ?_)
         refine wl_end rfl ?_
         refine nm_sub [(0, _), (3, _), (4, _), (5, _), (44, _)] ⟨rfl, rfl, rfl, rfl, rfl, trivial⟩ ?_
         refine nm_thn ?_
         refine ws_condFN PolyText_n47 rfl rfl rfl ?_
         refine ws_skip rfl ?_
         refine nm_sub [(0, _), (3, _), (4, _), (5, _)] ⟨rfl, rfl, rfl, rfl, trivial⟩ ?_
         refine nm_thn ?_
         refine ws_seqN PolyText_n48 PolyText_n49 rfl rfl rfl ?_
         refine ws_region rfl ?_
         refine wlo 0 1 rfl rfl rfl (wo_run rfl rfl (run_fieldAddr rfl rfl Tryd.underlying38 rfl (ce3) (nf3)) ?_)
         refine wlo 1 2 rfl rfl rfl (wo_run rfl rfl (run_load1 rfl rfl Tryd.underlying3 rfl (S3.boxc (i := 0) rfl rfl)) ?_)
         refine wlo 2 3 rfl rfl rfl (wo_cq rfl rfl rfl rfl rfl rfl rfl cf34 S3 (absR_q ((ga a i).c) ((by omega)) S3.lend) ?_)
         rintro _ w8 S8 rfl; clear S3
         refine wlo 3 4 rfl rfl rfl (wo_cq rfl rfl rfl rfl rfl rfl rfl cf33 S8 (dec_u (max ((ga a i).c) (-((ga a i).c))) (by omega) S8.lend) ?_)
         rintro _ w9 S9 rfl; clear S8
         refine wla 4 5 rfl rfl rfl rfl rfl rfl rfl ?_
         refine wl_end rfl ?_
         refine nm_sub [(0, _), (3, _), (4, _), (5, _), (6, _)] ⟨rfl, rfl, rfl, rfl, rfl, trivial⟩ ?_
         refine nm_thn ?_
         refine ws_seqN PolyText_n50 PolyText_n51 rfl rfl rfl ?_
         refine ws_seqN PolyText_n52 PolyText_n53 rfl rfl rfl ?_
         refine ws_region rfl ?_
         refine wlo 0 1 rfl rfl rfl (wo_run rfl rfl (run_fieldAddr rfl rfl Tryd.underlying38 rfl (ce3) (nf3)) ?_)
         refine wlo 1 2 rfl rfl rfl (wo_run rfl rfl (run_load1 rfl rfl Tryd.underlying3 rfl (S9.boxc (i := 0) rfl rfl)) ?_)
         refine wlo 2 3 rfl rfl rfl (wo_run rfl rfl (run_neq rfl rfl rfl) ?_)
         refine wlm 3 4 rfl rfl rfl rfl rfl rfl rfl ?_
         refine wl_split (t := 54) rfl (fun hg54 => ?_) (fun hg54 => ?_)
         ·replace hg54 := of_decide_eq_true hg54
          refine wl_opG (k := 4) (k' := 5) rfl rfl ⟨_, _, _, rfl, rfl, rfl, rfl⟩ rfl (wo_run rfl rfl (run_move rfl rfl) ?_)
          refine wl_opG (k := 5) (k' := 6) rfl rfl ⟨_, _, _, rfl, rfl, rfl, rfl⟩ rfl (wo_run rfl rfl (run_eqlD rfl rfl rfl) ?_)
          refine wlo 6 7 rfl rfl rfl (wo_run rfl rfl (run_pickT rfl rfl rfl) ?_)
          refine wl_end rfl ?_
          refine nm_sub [(0, _), (3, _), (4, _), (5, _), (6, _), (57, _)] ⟨rfl, rfl, rfl, rfl, rfl, rfl, trivial⟩ ?_
          refine nm_thn ?_
          refine ws_condN PolyText_n54 PolyText_n55 rfl rfl rfl rfl (fun hb57 => ?_) (fun hb57 => ?_)
          ·replace hb57 := of_decide_eq_true hb57
           have hone : max (ga a i).c (-(ga a i).c) = 1 := by have := dec_one.1 hb57; omega
           refine ws_region rfl ?_
           refine wla 0 1 rfl rfl rfl rfl rfl rfl rfl ?_
           refine wl_end rfl ?_
           refine nm_sub [(0, _), (3, _), (4, _), (5, _), (6, _)] ⟨rfl, rfl, rfl, rfl, rfl, trivial⟩ ?_
           refine nm_thn ?_
           refine ws_seqN PolyText_n56 PolyText_n57 rfl rfl rfl ?_
           refine ws_region rfl ?_
           refine wlm 0 1 rfl rfl rfl rfl rfl rfl rfl ?_
           refine wlm 1 2 rfl rfl rfl rfl rfl rfl rfl ?_
           refine wlo 2 3 rfl rfl rfl (wo_run rfl rfl (run_addS rfl rfl rfl ((by (try simp only [List.length_append, List.length_cons, List.length_nil]); first | omega | (simp only [lens]; omega)))) ?_)
           refine wla 3 4 rfl rfl rfl rfl rfl rfl rfl ?_
           refine wl_end rfl ?_
           refine nm_sub [(0, _), (3, _), (4, _), (5, _)] ⟨rfl, rfl, rfl, rfl, trivial⟩ ?_
           refine nm_thn ?_
           refine ws_seqN PolyText_n58 PolyText_n59 rfl rfl rfl ?_
           refine ws_region rfl ?_
           refine wlo 0 1 rfl rfl rfl (wo_run rfl rfl (run_fieldAddr rfl rfl Tryd.underlying38 rfl (ce3) (nf3)) ?_)
           refine wlo 1 2 rfl rfl rfl (wo_run rfl rfl (run_load1 rfl rfl Tryd.underlying3 rfl (S9.boxc (i := 0) rfl rfl)) ?_)
           refine wlo 2 3 rfl rfl rfl (wo_run rfl rfl (run_eql rfl rfl rfl) ?_)
           refine wl_end rfl ?_
           refine nm_sub [(0, _), (3, _), (4, _), (5, _), (68, _)] ⟨rfl, rfl, rfl, rfl, rfl, trivial⟩ ?_
           refine nm_thn ?_
           refine ws_condN PolyText_n60 PolyText_n61 rfl rfl rfl rfl (fun hb68 => ?_) (fun hb68 => ?_)
           ·replace hb68 := of_decide_eq_true hb68
            refine ws_region rfl ?_
            refine wlm 0 1 rfl rfl rfl rfl rfl rfl rfl ?_
            refine wlo 1 2 rfl rfl rfl (wo_run rfl rfl (run_addS rfl rfl rfl ((by (try simp only [List.length_append, List.length_cons, List.length_nil]); first | omega | (simp only [lens]; omega)))) ?_)
            refine wla 2 3 rfl rfl rfl rfl rfl rfl rfl ?_
            refine wl_end rfl ?_
            refine nm_blk ?_
            refine nm_sub [(0, _), (3, _), (4, _)] ⟨rfl, rfl, rfl, trivial⟩ ?_
            refine nm_thn ?_
            refine ws_region rfl ?_
            refine wlm 0 1 rfl rfl rfl rfl rfl rfl rfl ?_
            refine wlo 1 2 rfl rfl rfl (wo_run rfl rfl (run_add rfl rfl rfl (by first | omega | (simp only [lens]; omega))) ?_)
            refine wla 2 3 rfl rfl rfl rfl rfl rfl rfl ?_
            refine wl_end rfl ?_
            refine nm_lp ?_
            intro ax_ hax_
            refine ⟨_, ?hq7m, ⟨i + 1, (((s9 ++ ([32, 45, 32] : List UInt8)) ++ ([] : List UInt8)) ++ ([116] : List UInt8)), rfl, hax_.sub ⟨rfl, rfl, rfl, trivial⟩, S9.pick [] [] (by decide) trivial, ?hq7f0, ?hq7f1⟩⟩
            case hq7f0 => omega
            case hq7f1 => (rw [polT, ← hs9]; (first | rw [sgT_00 (by omega) (by omega)] | rw [sgT_01 (by omega) (by omega)] | rw [sgT_10 (by omega) (by omega)] | rw [sgT_11 (by omega) (by omega)]); (first | rw [bodyT_0 (by omega)] | rw [bodyT_1 (by omega) (by omega)] | rw [bodyT_2 (by omega) (by omega)]); (first | rw [powT_1 (by omega)] | rw [powT_2 (by omega)] | skip); (try unfold numT); all_goals (first | rfl | (simp only [List.append_assoc, List.append_nil, List.nil_append]; done) | (simp only [List.append_assoc, List.append_nil, List.nil_append]; rfl)))
            case hq7m => omega
           ·replace hb68 := of_decide_eq_false hb68
            refine ws_seqN PolyText_n62 PolyText_n63 rfl rfl rfl ?_
            refine ws_region rfl ?_
            refine wlo 0 1 rfl rfl rfl (wo_run rfl rfl (run_fieldAddr rfl rfl Tryd.underlying38 rfl (ce3) (nf3)) ?_)
            refine wlo 1 2 rfl rfl rfl (wo_run rfl rfl (run_load1 rfl rfl Tryd.underlying3 rfl (S9.boxc (i := 0) rfl rfl)) ?_)
            refine wlo 2 3 rfl rfl rfl (wo_run rfl rfl (run_neq rfl rfl rfl) ?_)
            refine wl_end rfl ?_
            refine nm_sub [(0, _), (3, _), (4, _), (5, _), (73, _)] ⟨rfl, rfl, rfl, rfl, rfl, trivial⟩ ?_
            refine nm_thn ?_
            refine ws_condN PolyText_n64 PolyText_n65 rfl rfl rfl rfl (fun hb73 => ?_) (fun hb73 => ?_)
            ·replace hb73 := of_decide_eq_true hb73
             refine ws_region rfl ?_
             refine wlm 0 1 rfl rfl rfl rfl rfl rfl rfl ?_
             refine wlo 1 2 rfl rfl rfl (wo_run rfl rfl (run_addS rfl rfl rfl ((by (try simp only [List.length_append, List.length_cons, List.length_nil]); first | omega | (simp only [lens]; omega)))) ?_)
             refine wlo 2 3 rfl rfl rfl (wo_run rfl rfl (run_fieldAddr rfl rfl Tryd.underlying38 rfl (ce3) (nf3)) ?_)
             refine wlo 3 4 rfl rfl rfl (wo_run rfl rfl (run_load1 rfl rfl Tryd.underlying3 rfl (S9.boxc (i := 0) rfl rfl)) ?_)
             refine wlo 4 5 rfl rfl rfl (wo_cq rfl rfl rfl rfl rfl rfl rfl cf33 S9 (dec_z ((ga a i).e) (by omega) S9.lend) ?_)
             rintro _ w10 S10 rfl; clear S9
             refine wlo 5 6 rfl rfl rfl (wo_run rfl rfl (run_addS rfl rfl rfl ((by (try simp only [List.length_append, List.length_cons, List.length_nil]); first | omega | (simp only [lens]; omega)))) ?_)
             refine wla 6 7 rfl rfl rfl rfl rfl rfl rfl ?_
             refine wl_end rfl ?_
             refine nm_blk ?_
             refine nm_sub [(0, _), (3, _), (4, _)] ⟨rfl, rfl, rfl, trivial⟩ ?_
             refine nm_thn ?_
             refine ws_region rfl ?_
             refine wlm 0 1 rfl rfl rfl rfl rfl rfl rfl ?_
             refine wlo 1 2 rfl rfl rfl (wo_run rfl rfl (run_add rfl rfl rfl (by first | omega | (simp only [lens]; omega))) ?_)
             refine wla 2 3 rfl rfl rfl rfl rfl rfl rfl ?_
             refine wl_end rfl ?_
             refine nm_lp ?_
             intro ax_ hax_
             refine ⟨_, ?hq8m, ⟨i + 1, ((((s9 ++ ([32, 45, 32] : List UInt8)) ++ ([] : List UInt8)) ++ ([116, 94] : List UInt8)) ++ (Lib.itoa ((ga a i).e))), rfl, hax_.sub ⟨rfl, rfl, rfl, trivial⟩, S10.pick [] [] (by decide) trivial, ?hq8f0, ?hq8f1⟩⟩
             case hq8f0 => omega
             case hq8f1 => (rw [polT, ← hs9]; (first | rw [sgT_00 (by omega) (by omega)] | rw [sgT_01 (by omega) (by omega)] | rw [sgT_10 (by omega) (by omega)] | rw [sgT_11 (by omega) (by omega)]); (first | rw [bodyT_0 (by omega)] | rw [bodyT_1 (by omega) (by omega)] | rw [bodyT_2 (by omega) (by omega)]); (first | rw [powT_1 (by omega)] | rw [powT_2 (by omega)] | skip); (try unfold numT); all_goals (first | rfl | (simp only [List.append_assoc, List.append_nil, List.nil_append]; done) | (simp only [List.append_assoc, List.append_nil, List.nil_append]; rfl)))
             case hq8m => omega
            ·replace hb73 := of_decide_eq_false hb73
             exfalso; omega
          ·replace hb57 := of_decide_eq_false hb57
           have hone : ¬ max (ga a i).c (-(ga a i).c) = 1 := fun h => hb57 (dec_one.2 (by omega))
           refine ws_seqN PolyText_n66 PolyText_n67 rfl rfl rfl ?_
           refine ws_region rfl ?_
           refine wlo 0 1 rfl rfl rfl (wo_run rfl rfl (run_fieldAddr rfl rfl Tryd.underlying38 rfl (ce3) (nf3)) ?_)
           refine wlo 1 2 rfl rfl rfl (wo_run rfl rfl (run_load1 rfl rfl Tryd.underlying3 rfl (S9.boxc (i := 0) rfl rfl)) ?_)
           refine wlo 2 3 rfl rfl rfl (wo_run rfl rfl (run_neq rfl rfl rfl) ?_)
           refine wl_end rfl ?_
           refine nm_sub [(0, _), (3, _), (4, _), (5, _), (6, _), (60, _)] ⟨rfl, rfl, rfl, rfl, rfl, rfl, trivial⟩ ?_
           refine nm_thn ?_
           refine ws_condN PolyText_n68 PolyText_n69 rfl rfl rfl rfl (fun hb60 => ?_) (fun hb60 => ?_)
           ·replace hb60 := of_decide_eq_true hb60
            refine ws_region rfl ?_
            refine wlm 0 1 rfl rfl rfl rfl rfl rfl rfl ?_
            refine wlo 1 2 rfl rfl rfl (wo_run rfl rfl (run_addS rfl rfl rfl ((by (try simp only [List.length_append, List.length_cons, List.length_nil]); first | omega | (simp only [lens]; omega)))) ?_)
            refine wla 2 3 rfl rfl rfl rfl rfl rfl rfl ?_
            refine wl_end rfl ?_
            refine nm_sub [(0, _), (3, _), (4, _), (5, _), (6, _)] ⟨rfl, rfl, rfl, rfl, rfl, trivial⟩ ?_
            refine nm_thn ?_
            refine ws_seqN PolyText_n56 PolyText_n57 rfl rfl rfl ?_
            refine ws_region rfl ?_
            refine wlm 0 1 rfl rfl rfl rfl rfl rfl rfl ?_
            refine wlm 1 2 rfl rfl rfl rfl rfl rfl rfl ?_
            refine wlo 2 3 rfl rfl rfl (wo_run rfl rfl (run_addS rfl rfl rfl ((by (try simp only [List.length_append, List.length_cons, List.length_nil]); first | omega | (simp only [lens]; omega)))) ?_)
            refine wla 3 4 rfl rfl rfl rfl rfl rfl rfl ?_
            refine wl_end rfl ?_
            refine nm_sub [(0, _), (3, _), (4, _), (5, _)] ⟨rfl, rfl, rfl, rfl, trivial⟩ ?_
            refine nm_thn ?_
            refine ws_seqN PolyText_n58 PolyText_n59 rfl rfl rfl ?_
            refine ws_region rfl ?_
            refine wlo 0 1 rfl rfl rfl (wo_run rfl rfl (run_fieldAddr rfl rfl Tryd.underlying38 rfl (ce3) (nf3)) ?_)
            refine wlo 1 2 rfl rfl rfl (wo_run rfl rfl (run_load1 rfl rfl Tryd.underlying3 rfl (S9.boxc (i := 0) rfl rfl)) ?_)
            refine wlo 2 3 rfl rfl rfl (wo_run rfl rfl (run_eql rfl rfl rfl) ?_)
            refine wl_end rfl ?_
            refine nm_sub [(0, _), (3, _), (4, _), (5, _), (68, _)] ⟨rfl, rfl, rfl, rfl, rfl, trivial⟩ ?_
            refine nm_thn ?_
            refine ws_condN PolyText_n60 PolyText_n61 rfl rfl rfl rfl (fun hb68 => ?_) (fun hb68 => ?_)
            ·replace hb68 := of_decide_eq_true hb68
             refine ws_region rfl ?_
             refine wlm 0 1 rfl rfl rfl rfl rfl rfl rfl ?_
             refine wlo 1 2 rfl rfl rfl (wo_run rfl rfl (run_addS rfl rfl rfl ((by (try simp only [List.length_append, List.length_cons, List.length_nil]); first | omega | (simp only [lens]; omega)))) ?_)
             refine wla 2 3 rfl rfl rfl rfl rfl rfl rfl ?_
             refine wl_end rfl ?_
             refine nm_blk ?_
             refine nm_sub [(0, _), (3, _), (4, _)] ⟨rfl, rfl, rfl, trivial⟩ ?_
             refine nm_thn ?_
             refine ws_region rfl ?_
             refine wlm 0 1 rfl rfl rfl rfl rfl rfl rfl ?_
             refine wlo 1 2 rfl rfl rfl (wo_run rfl rfl (run_add rfl rfl rfl (by first | omega | (simp only [lens]; omega))) ?_)
             refine wla 2 3 rfl rfl rfl rfl rfl rfl rfl ?_
             refine wl_end rfl ?_
             refine nm_lp ?_
             intro ax_ hax_
             refine ⟨_, ?hq9m, ⟨i + 1, (((s9 ++ ([32, 45, 32] : List UInt8)) ++ ((Lib.decDigits (max ((ga a i).c) (-((ga a i).c))).toNat) ++ ([42] : List UInt8))) ++ ([116] : List UInt8)), rfl, hax_.sub ⟨rfl, rfl, rfl, trivial⟩, S9.pick [] [] (by decide) trivial, ?hq9f0, ?hq9f1⟩⟩
             case hq9f0 => omega
             case hq9f1 => (rw [polT, ← hs9]; (first | rw [sgT_00 (by omega) (by omega)] | rw [sgT_01 (by omega) (by omega)] | rw [sgT_10 (by omega) (by omega)] | rw [sgT_11 (by omega) (by omega)]); (first | rw [bodyT_0 (by omega)] | rw [bodyT_1 (by omega) (by omega)] | rw [bodyT_2 (by omega) (by omega)]); (first | rw [powT_1 (by omega)] | rw [powT_2 (by omega)] | skip); (try unfold numT); all_goals (first | rfl | (simp only [List.append_assoc, List.append_nil, List.nil_append]; done) | (simp only [List.append_assoc, List.append_nil, List.nil_append]; rfl)))
             case hq9m => omega
            ·replace hb68 := of_decide_eq_false hb68
             refine ws_seqN PolyText_n62 PolyText_n63 rfl rfl rfl ?_
             refine ws_region rfl ?_
             refine wlo 0 1 rfl rfl rfl (wo_run rfl rfl (run_fieldAddr rfl rfl Tryd.underlying38 rfl (ce3) (nf3)) ?_)
             refine wlo 1 2 rfl rfl rfl (wo_run rfl rfl (run_load1 rfl rfl Tryd.underlying3 rfl (S9.boxc (i := 0) rfl rfl)) ?_)
             refine wlo 2 3 rfl rfl rfl (wo_run rfl rfl (run_neq rfl rfl rfl) ?_)
             refine wl_end rfl ?_
             refine nm_sub [(0, _), (3, _), (4, _), (5, _), (73, _)] ⟨rfl, rfl, rfl, rfl, rfl, trivial⟩ ?_
             refine nm_thn ?_
             refine ws_condN PolyText_n64 PolyText_n65 rfl rfl rfl rfl (fun hb73 => ?_) (fun hb73 => ?_)
             ·replace hb73 := of_decide_eq_true hb73
              refine ws_region rfl ?_
              refine wlm 0 1 rfl rfl rfl rfl rfl rfl rfl ?_
              refine wlo 1 2 rfl rfl rfl (wo_run rfl rfl (run_addS rfl rfl rfl ((by (try simp only [List.length_append, List.length_cons, List.length_nil]); first | omega | (simp only [lens]; omega)))) ?_)
              refine wlo 2 3 rfl rfl rfl (wo_run rfl rfl (run_fieldAddr rfl rfl Tryd.underlying38 rfl (ce3) (nf3)) ?_)
              refine wlo 3 4 rfl rfl rfl (wo_run rfl rfl (run_load1 rfl rfl Tryd.underlying3 rfl (S9.boxc (i := 0) rfl rfl)) ?_)
              refine wlo 4 5 rfl rfl rfl (wo_cq rfl rfl rfl rfl rfl rfl rfl cf33 S9 (dec_z ((ga a i).e) (by omega) S9.lend) ?_)
              rintro _ w11 S11 rfl; clear S9
              refine wlo 5 6 rfl rfl rfl (wo_run rfl rfl (run_addS rfl rfl rfl ((by (try simp only [List.length_append, List.length_cons, List.length_nil]); first | omega | (simp only [lens]; omega)))) ?_)
              refine wla 6 7 rfl rfl rfl rfl rfl rfl rfl ?_
              refine wl_end rfl ?_
              refine nm_blk ?_
              refine nm_sub [(0, _), (3, _), (4, _)] ⟨rfl, rfl, rfl, trivial⟩ ?_
              refine nm_thn ?_
              refine ws_region rfl ?_
              refine wlm 0 1 rfl rfl rfl rfl rfl rfl rfl ?_
              refine wlo 1 2 rfl rfl rfl (wo_run rfl rfl (run_add rfl rfl rfl (by first | omega | (simp only [lens]; omega))) ?_)
              refine wla 2 3 rfl rfl rfl rfl rfl rfl rfl ?_
              refine wl_end rfl ?_
              refine nm_lp ?_
              intro ax_ hax_
              refine ⟨_, ?hq10m, ⟨i + 1, ((((s9 ++ ([32, 45, 32] : List UInt8)) ++ ((Lib.decDigits (max ((ga a i).c) (-((ga a i).c))).toNat) ++ ([42] : List UInt8))) ++ ([116, 94] : List UInt8)) ++ (Lib.itoa ((ga a i).e))), rfl, hax_.sub ⟨rfl, rfl, rfl, trivial⟩, S11.pick [] [] (by decide) trivial, ?hq10f0, ?hq10f1⟩⟩
              case hq10f0 => omega
              case hq10f1 => (rw [polT, ← hs9]; (first | rw [sgT_00 (by omega) (by omega)] | rw [sgT_01 (by omega) (by omega)] | rw [sgT_10 (by omega) (by omega)] | rw [sgT_11 (by omega) (by omega)]); (first | rw [bodyT_0 (by omega)] | rw [bodyT_1 (by omega) (by omega)] | rw [bodyT_2 (by omega) (by omega)]); (first | rw [powT_1 (by omega)] | rw [powT_2 (by omega)] | skip); (try unfold numT); all_goals (first | rfl | (simp only [List.append_assoc, List.append_nil, List.nil_append]; done) | (simp only [List.append_assoc, List.append_nil, List.nil_append]; rfl)))
              case hq10m => omega
             ·replace hb73 := of_decide_eq_false hb73
              exfalso; omega
           ·replace hb60 := of_decide_eq_false hb60
            exfalso; omega
         ·replace hg54 := of_decide_eq_false hg54
          refine wl_no (k := 4) (k' := 5) (d := 55) rfl rfl ⟨_, _, _, rfl, rfl, rfl, rfl⟩ rfl rfl ?_
          refine wl_no (k := 5) (k' := 6) (d := 56) rfl rfl ⟨_, _, _, rfl, rfl, rfl, rfl⟩ rfl rfl ?_
          refine wlo 6 7 rfl rfl rfl (wo_run rfl rfl (run_pickF rfl rfl rfl) ?_)
          refine wl_end rfl ?_
          refine nm_sub [(0, _), (3, _), (4, _), (5, _), (6, _), (57, _)] ⟨rfl, rfl, rfl, rfl, rfl, rfl, trivial⟩ ?_
          refine nm_thn ?_
          refine ws_condFN PolyText_n55 rfl rfl rfl ?_
          refine ws_seqN PolyText_n66 PolyText_n67 rfl rfl rfl ?_
          refine ws_region rfl ?_
          refine wlo 0 1 rfl rfl rfl (wo_run rfl rfl (run_fieldAddr rfl rfl Tryd.underlying38 rfl (ce3) (nf3)) ?_)
          refine wlo 1 2 rfl rfl rfl (wo_run rfl rfl (run_load1 rfl rfl Tryd.underlying3 rfl (S9.boxc (i := 0) rfl rfl)) ?_)
          refine wlo 2 3 rfl rfl rfl (wo_run rfl rfl (run_neq rfl rfl rfl) ?_)
          refine wl_end rfl ?_
          refine nm_sub [(0, _), (3, _), (4, _), (5, _), (6, _), (60, _)] ⟨rfl, rfl, rfl, rfl, rfl, rfl, trivial⟩ ?_
          refine nm_thn ?_
          refine ws_condN PolyText_n68 PolyText_n69 rfl rfl rfl rfl (fun hb60 => ?_) (fun hb60 => ?_)
          ·replace hb60 := of_decide_eq_true hb60
           exfalso; omega
          ·replace hb60 := of_decide_eq_false hb60
           refine ws_skip rfl ?_
           refine nm_sub [(0, _), (3, _), (4, _), (5, _), (6, _)] ⟨rfl, rfl, rfl, rfl, rfl, trivial⟩ ?_
           refine nm_thn ?_
           refine ws_seqN PolyText_n56 PolyText_n57 rfl rfl rfl ?_
           refine ws_region rfl ?_
           refine wlm 0 1 rfl rfl rfl rfl rfl rfl rfl ?_
           refine wlm 1 2 rfl rfl rfl rfl rfl rfl rfl ?_
           refine wlo 2 3 rfl rfl rfl (wo_run rfl rfl (run_addS rfl rfl rfl ((by (try simp only [List.length_append, List.length_cons, List.length_nil]); first | omega | (simp only [lens]; omega)))) ?_)
           refine wla 3 4 rfl rfl rfl rfl rfl rfl rfl ?_
           refine wl_end rfl ?_
           refine nm_sub [(0, _), (3, _), (4, _), (5, _)] ⟨rfl, rfl, rfl, rfl, trivial⟩ ?_
           refine nm_thn ?_
           refine ws_seqN PolyText_n58 PolyText_n59 rfl rfl rfl ?_
           refine ws_region rfl ?_
           refine wlo 0 1 rfl rfl rfl (wo_run rfl rfl (run_fieldAddr rfl rfl Tryd.underlying38 rfl (ce3) (nf3)) ?_)
           refine wlo 1 2 rfl rfl rfl (wo_run rfl rfl (run_load1 rfl rfl Tryd.underlying3 rfl (S9.boxc (i := 0) rfl rfl)) ?_)
           refine wlo 2 3 rfl rfl rfl (wo_run rfl rfl (run_eql rfl rfl rfl) ?_)
           refine wl_end rfl ?_
           refine nm_sub [(0, _), (3, _), (4, _), (5, _), (68, _)] ⟨rfl, rfl, rfl, rfl, rfl, trivial⟩ ?_
           refine nm_thn ?_
           refine ws_condN PolyText_n60 PolyText_n61 rfl rfl rfl rfl (fun hb68 => ?_) (fun hb68 => ?_)
           ·replace hb68 := of_decide_eq_true hb68
            exfalso; omega
           ·replace hb68 := of_decide_eq_false hb68
            refine ws_seqN PolyText_n62 PolyText_n63 rfl rfl rfl ?_
            refine ws_region rfl ?_
            refine wlo 0 1 rfl rfl rfl (wo_run rfl rfl (run_fieldAddr rfl rfl Tryd.underlying38 rfl (ce3) (nf3)) ?_)
            refine wlo 1 2 rfl rfl rfl (wo_run rfl rfl (run_load1 rfl rfl Tryd.underlying3 rfl (S9.boxc (i := 0) rfl rfl)) ?_)
            refine wlo 2 3 rfl rfl rfl (wo_run rfl rfl (run_neq rfl rfl rfl) ?_)
            refine wl_end rfl ?_
            refine nm_sub [(0, _), (3, _), (4, _), (5, _), (73, _)] ⟨rfl, rfl, rfl, rfl, rfl, trivial⟩ ?_
            refine nm_thn ?_
            refine ws_condN PolyText_n64 PolyText_n65 rfl rfl rfl rfl (fun hb73 => ?_) (fun hb73 => ?_)
            ·replace hb73 := of_decide_eq_true hb73
             exfalso; omega
            ·replace hb73 := of_decide_eq_false hb73
             refine ws_skip rfl ?_
             refine nm_blk ?_
             refine nm_sub [(0, _), (3, _), (4, _)] ⟨rfl, rfl, rfl, trivial⟩ ?_
             refine nm_thn ?_
             refine ws_region rfl ?_
             refine wlm 0 1 rfl rfl rfl rfl rfl rfl rfl ?_
             refine wlo 1 2 rfl rfl rfl (wo_run rfl rfl (run_add rfl rfl rfl (by first | omega | (simp only [lens]; omega))) ?_)
             refine wla 2 3 rfl rfl rfl rfl rfl rfl rfl ?_
             refine wl_end rfl ?_
             refine nm_lp ?_
             intro ax_ hax_
             refine ⟨_, ?hq11m, ⟨i + 1, ((s9 ++ ([32, 45, 32] : List UInt8)) ++ (Lib.decDigits (max ((ga a i).c) (-((ga a i).c))).toNat)), rfl, hax_.sub ⟨rfl, rfl, rfl, trivial⟩, S9.pick [] [] (by decide) trivial, ?hq11f0, ?hq11f1⟩⟩
             case hq11f0 => omega
             case hq11f1 => (rw [polT, ← hs9]; (first | rw [sgT_00 (by omega) (by omega)] | rw [sgT_01 (by omega) (by omega)] | rw [sgT_10 (by omega) (by omega)] | rw [sgT_11 (by omega) (by omega)]); (first | rw [bodyT_0 (by omega)] | rw [bodyT_1 (by omega) (by omega)] | rw [bodyT_2 (by omega) (by omega)]); (first | rw [powT_1 (by omega)] | rw [powT_2 (by omega)] | skip); (try unfold numT); all_goals (first | rfl | (simp only [List.append_assoc, List.append_nil, List.nil_append]; done) | (simp only [List.append_assoc, List.append_nil, List.nil_append]; rfl)))
             case hq11m => omega
       ·replace hb35 := of_decide_eq_false hb35
        exfalso; omega
      ·replace hg32 := of_decide_eq_false hg32
       exfalso; omega
    ·replace hg23 := of_decide_eq_false hg23
     refine wl_no (k := 4) (k' := 5) (d := 24) rfl rfl ⟨_, _, _, rfl, rfl, rfl, rfl⟩ rfl rfl ?_
     refine wl_no (k := 5) (k' := 6) (d := 25) rfl rfl ⟨_, _, _, rfl, rfl, rfl, rfl⟩ rfl rfl ?_
     refine wlo 6 7 rfl rfl rfl (wo_run rfl rfl (run_pickF rfl rfl rfl) ?_)
     refine wl_end rfl ?_
     refine nm_sub [(0, _), (3, _), (4, _), (5, _), (26, _)] ⟨rfl, rfl, rfl, rfl, rfl, trivial⟩ ?_
     refine nm_thn ?_
     refine ws_condFN PolyText_n35 rfl rfl rfl ?_
     refine ws_skip rfl ?_
     refine nm_sub [(0, _), (3, _), (4, _), (5, _)] ⟨rfl, rfl, rfl, rfl, trivial⟩ ?_
     refine nm_thn ?_
     refine ws_seqN PolyText_n36 PolyText_n37 rfl rfl rfl ?_
     refine ws_seqN PolyText_n38 PolyText_n39 rfl rfl rfl ?_
     refine ws_region rfl ?_
     refine wlo 0 1 rfl rfl rfl (wo_run rfl rfl (run_fieldAddr rfl rfl Tryd.underlying38 rfl (ce3) (nf3)) ?_)
     refine wlo 1 2 rfl rfl rfl (wo_run rfl rfl (run_load1 rfl rfl Tryd.underlying3 rfl (S3.boxc (i := 0) rfl rfl)) ?_)
     refine wlo 2 3 rfl rfl rfl (wo_run rfl rfl (run_lss rfl rfl rfl) ?_)
     refine wlm 3 4 rfl rfl rfl rfl rfl rfl rfl ?_
     refine wl_split (t := 32) rfl (fun hg32 => ?_) (fun hg32 => ?_)
     ·replace hg32 := of_decide_eq_true hg32
      exfalso; omega
     ·replace hg32 := of_decide_eq_false hg32
      refine wl_no (k := 4) (k' := 5) (d := 33) rfl rfl ⟨_, _, _, rfl, rfl, rfl, rfl⟩ rfl rfl ?_
      refine wl_no (k := 5) (k' := 6) (d := 34) rfl rfl ⟨_, _, _, rfl, rfl, rfl, rfl⟩ rfl rfl ?_
      refine wlo 6 7 rfl rfl rfl (wo_run rfl rfl (run_pickF rfl rfl rfl) ?_)
      refine wl_end rfl ?_
      refine nm_sub [(0, _), (3, _), (4, _), (5, _), (35, _)] ⟨rfl, rfl, rfl, rfl, rfl, trivial⟩ ?_
      refine nm_thn ?_
      refine ws_condFN PolyText_n41 rfl rfl rfl ?_
      refine ws_skip rfl ?_
      refine nm_sub [(0, _), (3, _), (4, _), (5, _)] ⟨rfl, rfl, rfl, rfl, trivial⟩ ?_
      refine nm_thn ?_
      refine ws_seqN PolyText_n42 PolyText_n43 rfl rfl rfl ?_
      refine ws_seqN PolyText_n44 PolyText_n45 rfl rfl rfl ?_
      refine ws_region rfl ?_
      refine wlo 0 1 rfl rfl rfl (wo_run rfl rfl (run_fieldAddr rfl rfl Tryd.underlying38 rfl (ce3) (nf3)) ?_)
      refine wlo 1 2 rfl rfl rfl (wo_run rfl rfl (run_load1 rfl rfl Tryd.underlying3 rfl (S3.boxc (i := 0) rfl rfl)) ?_)
      refine wlo 2 3 rfl rfl rfl (wo_run rfl rfl (run_gtr rfl rfl rfl) ?_)
      refine wlm 3 4 rfl rfl rfl rfl rfl rfl rfl ?_
      refine wl_split (t := 41) rfl (fun hg41 => ?_) (fun hg41 => ?_)
      ·replace hg41 := of_decide_eq_true hg41
       refine wl_opG (k := 4) (k' := 5) rfl rfl ⟨_, _, _, rfl, rfl, rfl, rfl⟩ rfl (wo_run rfl rfl (run_move rfl rfl) ?_)
       refine wl_opG (k := 5) (k' := 6) rfl rfl ⟨_, _, _, rfl, rfl, rfl, rfl⟩ rfl (wo_run rfl rfl (run_gtr rfl rfl rfl) ?_)
       refine wlo 6 7 rfl rfl rfl (wo_run rfl rfl (run_pickT rfl rfl rfl) ?_)
       refine wl_end rfl ?_
       refine nm_sub [(0, _), (3, _), (4, _), (5, _), (44, _)] ⟨rfl, rfl, rfl, rfl, rfl, trivial⟩ ?_
       refine nm_thn ?_
       refine ws_condN PolyText_n46 PolyText_n47 rfl rfl rfl rfl (fun hb44 => ?_) (fun hb44 => ?_)
       ·replace hb44 := of_decide_eq_true hb44
        refine ws_region rfl ?_
        refine wlm 0 1 rfl rfl rfl rfl rfl rfl rfl ?_
        refine wlo 1 2 rfl rfl rfl (wo_run rfl rfl (run_addS rfl rfl rfl ((by (try simp only [List.length_append, List.length_cons, List.length_nil]); first | omega | (simp only [lens]; omega)))) ?_)
        refine wla 2 3 rfl rfl rfl rfl rfl rfl rfl ?_
        refine wl_end rfl ?_
        refine nm_sub [(0, _), (3, _), (4, _), (5, _)] ⟨rfl, rfl, rfl, rfl, trivial⟩ ?_
        refine nm_thn ?_
        refine ws_seqN PolyText_n48 PolyText_n49 rfl rfl rfl ?_
        refine ws_region rfl ?_
        refine wlo 0 1 rfl rfl rfl (wo_run rfl rfl (run_fieldAddr rfl rfl Tryd.underlying38 rfl (ce3) (nf3)) ?_)
        refine wlo 1 2 rfl rfl rfl (wo_run rfl rfl (run_load1 rfl rfl Tryd.underlying3 rfl (S3.boxc (i := 0) rfl rfl)) ?_)
        refine wlo 2 3 rfl rfl rfl (wo_cq rfl rfl rfl rfl rfl rfl rfl cf34 S3 (absR_q ((ga a i).c) ((by omega)) S3.lend) ?_)
        rintro _ w12 S12 rfl; clear S3
        refine wlo 3 4 rfl rfl rfl (wo_cq rfl rfl rfl rfl rfl rfl rfl cf33 S12 (dec_u (max ((ga a i).c) (-((ga a i).c))) (by omega) S12.lend) ?_)
        rintro _ w13 S13 rfl; clear S12
        refine wla 4 5 rfl rfl rfl rfl rfl rfl rfl ?_
        refine wl_end rfl ?_
        refine nm_sub [(0, _), (3, _), (4, _), (5, _), (6, _)] ⟨rfl, rfl, rfl, rfl, rfl, trivial⟩ ?_
        refine nm_thn ?_
        refine ws_seqN PolyText_n50 PolyText_n51 rfl rfl rfl ?_
        refine ws_seqN PolyText_n52 PolyText_n53 rfl rfl rfl ?_
        refine ws_region rfl ?_
        refine wlo 0 1 rfl rfl rfl (wo_run rfl rfl (run_fieldAddr rfl rfl Tryd.underlying38 rfl (ce3) (nf3)) ?_)
        refine wlo 1 2 rfl rfl rfl (wo_run rfl rfl (run_load1 rfl rfl Tryd.underlying3 rfl (S13.boxc (i := 0) rfl rfl)) ?_)
        refine wlo 2 3 rfl rfl rfl (wo_run rfl rfl (run_neq rfl rfl rfl) ?_)
        refine wlm 3 4 rfl rfl rfl rfl rfl rfl rfl ?_
        refine wl_split (t := 54) rfl (fun hg54 => ?_) (fun hg54 => ?_)
        ·replace hg54 := of_decide_eq_true hg54
         refine wl_opG (k := 4) (k' := 5) rfl rfl ⟨_, _, _, rfl, rfl, rfl, rfl⟩ rfl (wo_run rfl rfl (run_move rfl rfl) ?_)
         refine wl_opG (k := 5) (k' := 6) rfl rfl ⟨_, _, _, rfl, rfl, rfl, rfl⟩ rfl (wo_run rfl rfl (run_eqlD rfl rfl rfl) ?_)
         refine wlo 6 7 rfl rfl rfl (wo_run rfl rfl (run_pickT rfl rfl rfl) ?_)
         refine wl_end rfl ?_
         refine nm_sub [(0, _), (3, _), (4, _), (5, _), (6, _), (57, _)] ⟨rfl, rfl, rfl, rfl, rfl, rfl, trivial⟩ ?_
         refine nm_thn ?_
         refine ws_condN PolyText_n54 PolyText_n55 rfl rfl rfl rfl (fun hb57 => ?_) (fun hb57 => ?_)
         ·replace hb57 := of_decide_eq_true hb57
          have hone : max (ga a i).c (-(ga a i).c) = 1 := by have := dec_one.1 hb57; omega
          refine ws_region rfl ?_
          refine wla 0 1 rfl rfl rfl rfl rfl rfl rfl ?_
          refine wl_end rfl ?_
          refine nm_sub [(0, _), (3, _), (4, _), (5, _), (6, _)] ⟨rfl, rfl, rfl, rfl, rfl, trivial⟩ ?_
          refine nm_thn ?_
          refine ws_seqN PolyText_n56 PolyText_n57 rfl rfl rfl ?_
          refine ws_region rfl ?_
          refine wlm 0 1 rfl rfl rfl rfl rfl rfl rfl ?_
          refine wlm 1 2 rfl rfl rfl rfl rfl rfl rfl ?_
          refine wlo 2 3 rfl rfl rfl (wo_run rfl rfl (run_addS rfl rfl rfl ((by (try simp only [List.length_append, List.length_cons, List.length_nil]); first | omega | (simp only [lens]; omega)))) ?_)
          refine wla 3 4 rfl rfl rfl rfl rfl rfl rfl ?_
          refine wl_end rfl ?_
          refine nm_sub [(0, _), (3, _), (4, _), (5, _)] ⟨rfl, rfl, rfl, rfl, trivial⟩ ?_
          refine nm_thn ?_
          refine ws_seqN PolyText_n58 PolyText_n59 rfl rfl rfl ?_
          refine ws_region rfl ?_
          refine wlo 0 1 rfl rfl rfl (wo_run rfl rfl (run_fieldAddr rfl rfl Tryd.underlying38 rfl (ce3) (nf3)) ?_)
          refine wlo 1 2 rfl rfl rfl (wo_run rfl rfl (run_load1 rfl rfl Tryd.underlying3 rfl (S13.boxc (i := 0) rfl rfl)) ?_)
          refine wlo 2 3 rfl rfl rfl (wo_run rfl rfl (run_eql rfl rfl rfl) ?_)
          refine wl_end rfl ?_
          refine nm_sub [(0, _), (3, _), (4, _), (5, _), (68, _)] ⟨rfl, rfl, rfl, rfl, rfl, trivial⟩ ?_
          refine nm_thn ?_
          refine ws_condN PolyText_n60 PolyText_n61 rfl rfl rfl rfl (fun hb68 => ?_) (fun hb68 => ?_)
          ·replace hb68 := of_decide_eq_true hb68
           refine ws_region rfl ?_
           refine wlm 0 1 rfl rfl rfl rfl rfl rfl rfl ?_
           refine wlo 1 2 rfl rfl rfl (wo_run rfl rfl (run_addS rfl rfl rfl ((by (try simp only [List.length_append, List.length_cons, List.length_nil]); first | omega | (simp only [lens]; omega)))) ?_)
           refine wla 2 3 rfl rfl rfl rfl rfl rfl rfl ?_
           refine wl_end rfl ?_
           refine nm_blk ?_
           refine nm_sub [(0, _), (3, _), (4, _)] ⟨rfl, rfl, rfl, trivial⟩ ?_
           refine nm_thn ?_
           refine ws_region rfl ?_
           refine wlm 0 1 rfl rfl rfl rfl rfl rfl rfl ?_
           refine wlo 1 2 rfl rfl rfl (wo_run rfl rfl (run_add rfl rfl rfl (by first | omega | (simp only [lens]; omega))) ?_)
           refine wla 2 3 rfl rfl rfl rfl rfl rfl rfl ?_
           refine wl_end rfl ?_
           refine nm_lp ?_
           intro ax_ hax_
           refine ⟨_, ?hq12m, ⟨i + 1, (((s9 ++ ([32, 43, 32] : List UInt8)) ++ ([] : List UInt8)) ++ ([116] : List UInt8)), rfl, hax_.sub ⟨rfl, rfl, rfl, trivial⟩, S13.pick [] [] (by decide) trivial, ?hq12f0, ?hq12f1⟩⟩
           case hq12f0 => omega
           case hq12f1 => (rw [polT, ← hs9]; (first | rw [sgT_00 (by omega) (by omega)] | rw [sgT_01 (by omega) (by omega)] | rw [sgT_10 (by omega) (by omega)] | rw [sgT_11 (by omega) (by omega)]); (first | rw [bodyT_0 (by omega)] | rw [bodyT_1 (by omega) (by omega)] | rw [bodyT_2 (by omega) (by omega)]); (first | rw [powT_1 (by omega)] | rw [powT_2 (by omega)] | skip); (try unfold numT); all_goals (first | rfl | (simp only [List.append_assoc, List.append_nil, List.nil_append]; done) | (simp only [List.append_assoc, List.append_nil, List.nil_append]; rfl)))
           case hq12m => omega
          ·replace hb68 := of_decide_eq_false hb68
           refine ws_seqN PolyText_n62 PolyText_n63 rfl rfl rfl ?_
           refine ws_region rfl ?_
           refine wlo 0 1 rfl rfl rfl (wo_run rfl rfl (run_fieldAddr rfl rfl Tryd.underlying38 rfl (ce3) (nf3)) ?_)
           refine wlo 1 2 rfl rfl rfl (wo_run rfl rfl (run_load1 rfl rfl Tryd.underlying3 rfl (S13.boxc (i := 0) rfl rfl)) ?_)
           refine wlo 2 3 rfl rfl rfl (wo_run rfl rfl (run_neq rfl rfl rfl) ?_)
           refine wl_end rfl ?_
           refine nm_sub [(0, _), (3, _), (4, _), (5, _), (73, _)] ⟨rfl, rfl, rfl, rfl, rfl, trivial⟩ ?_
           refine nm_thn ?_
           refine ws_condN PolyText_n64 PolyText_n65 rfl rfl rfl rfl (fun hb73 => ?_) (fun hb73 => ?_)
           ·replace hb73 := of_decide_eq_true hb73
            refine ws_region rfl ?_
            refine wlm 0 1 rfl rfl rfl rfl rfl rfl rfl ?_
            refine wlo 1 2 rfl rfl rfl (wo_run rfl rfl (run_addS rfl rfl rfl ((by (try simp only [List.length_append, List.length_cons, List.length_nil]); first | omega | (simp only [lens]; omega)))) ?_)
            refine wlo 2 3 rfl rfl rfl (wo_run rfl rfl (run_fieldAddr rfl rfl Tryd.underlying38 rfl (ce3) (nf3)) ?_)
            refine wlo 3 4 rfl rfl rfl (wo_run rfl rfl (run_load1 rfl rfl Tryd.underlying3 rfl (S13.boxc (i := 0) rfl rfl)) ?_)
            refine wlo 4 5 rfl rfl rfl (wo_cq rfl rfl rfl rfl rfl rfl rfl cf33 S13 (dec_z ((ga a i).e) (by omega) S13.lend) ?_)
            rintro _ w14 S14 rfl; clear S13
            refine wlo 5 6 rfl rfl rfl (wo_run rfl rfl (run_addS rfl rfl rfl ((by (try simp only [List.length_append, List.length_cons, List.length_nil]); first | omega | (simp only [lens]; omega)))) ?_)
            refine wla 6 7 rfl rfl rfl rfl rfl rfl rfl ?_
            refine wl_end rfl ?_
            refine nm_blk ?_
            refine nm_sub [(0, _), (3, _), (4, _)] ⟨rfl, rfl, rfl, trivial⟩ ?_
            refine nm_thn ?_
            refine ws_region rfl ?_
            refine wlm 0 1 rfl rfl rfl rfl rfl rfl rfl ?_
            refine wlo 1 2 rfl rfl rfl (wo_run rfl rfl (run_add rfl rfl rfl (by first | omega | (simp only [lens]; omega))) ?_)
            refine wla 2 3 rfl rfl rfl rfl rfl rfl rfl ?_
            refine wl_end rfl ?_
            refine nm_lp ?_
            intro ax_ hax_
            refine ⟨_, ?hq13m, ⟨i + 1, ((((s9 ++ ([32, 43, 32] : List UInt8)) ++ ([] : List UInt8)) ++ ([116, 94] : List UInt8)) ++ (Lib.itoa ((ga a i).e))), rfl, hax_.sub ⟨rfl, rfl, rfl, trivial⟩, S14.pick [] [] (by decide) trivial, ?hq13f0, ?hq13f1⟩⟩
            case hq13f0 => omega
            case hq13f1 => (rw [polT, ← hs9]; (first | rw [sgT_00 (by omega) (by omega)] | rw [sgT_01 (by omega) (by omega)] | rw [sgT_10 (by omega) (by omega)] | rw [sgT_11 (by omega) (by omega)]); (first | rw [bodyT_0 (by omega)] | rw [bodyT_1 (by omega) (by omega)] | rw [bodyT_2 (by omega) (by omega)]); (first | rw [powT_1 (by omega)] | rw [powT_2 (by omega)] | skip); (try unfold numT); all_goals (first | rfl | (simp only [List.append_assoc, List.append_nil, List.nil_append]; done) | (simp only [List.append_assoc, List.append_nil, List.nil_append]; rfl)))
            case hq13m => omega
           ·replace hb73 := of_decide_eq_false hb73
            exfalso; omega
         ·replace hb57 := of_decide_eq_false hb57
          have hone : ¬ max (ga a i).c (-(ga a i).c) = 1 := fun h => hb57 (dec_one.2 (by omega))
          refine ws_seqN PolyText_n66 PolyText_n67 rfl rfl rfl ?_
          refine ws_region rfl ?_
          refine wlo 0 1 rfl rfl rfl (wo_run rfl rfl (run_fieldAddr rfl rfl Tryd.underlying38 rfl (ce3) (nf3)) ?_)
          refine wlo 1 2 rfl rfl rfl (wo_run rfl rfl (run_load1 rfl rfl Tryd.underlying3 rfl (S13.boxc (i := 0) rfl rfl)) ?_)
          refine wlo 2 3 rfl rfl rfl (wo_run rfl rfl (run_neq rfl rfl rfl) ?_)
          refine wl_end rfl ?_
          refine nm_sub [(0, _), (3, _), (4, _), (5, _), (6, _), (60, _)] ⟨rfl, rfl, rfl, rfl, rfl, rfl, trivial⟩ ?_
          refine nm_thn ?_
          refine ws_condN PolyText_n68 PolyText_n69 rfl rfl rfl rfl (fun hb60 => ?_) (fun hb60 => ?_)
          ·replace hb60 := of_decide_eq_true hb60
           refine ws_region rfl ?_
           refine wlm 0 1 rfl rfl rfl rfl rfl rfl rfl ?_
           refine wlo 1 2 rfl rfl rfl (wo_run rfl rfl (run_addS rfl rfl rfl ((by (try simp only [List.length_append, List.length_cons, List.length_nil]); first | omega | (simp only [lens]; omega)))) ?_)
           refine wla 2 3 rfl rfl rfl rfl rfl rfl rfl ?_
           refine wl_end rfl ?_
           refine nm_sub [(0, _), (3, _), (4, _), (5, _), (6, _)] ⟨rfl, rfl, rfl, rfl, rfl, trivial⟩ ?_
           refine nm_thn ?_
           refine ws_seqN PolyText_n56 PolyText_n57 rfl rfl rfl ?_
           refine ws_region rfl ?_
           refine wlm 0 1 rfl rfl rfl rfl rfl rfl rfl ?_
           refine wlm 1 2 rfl rfl rfl rfl rfl rfl rfl ?_
           refine wlo 2 3 rfl rfl rfl (wo_run rfl rfl (run_addS rfl rfl rfl ((by (try simp only [List.length_append, List.length_cons, List.length_nil]); first | omega | (simp only [lens]; omega)))) ?_)
           refine wla 3 4 rfl rfl rfl rfl rfl rfl rfl ?_
           refine wl_end rfl ?_
           refine nm_sub [(0, _), (3, _), (4, _), (5, _)] ⟨rfl, rfl, rfl, rfl, trivial⟩ ?_
           refine nm_thn ?_
           refine ws_seqN PolyText_n58 PolyText_n59 rfl rfl rfl ?_
           refine ws_region rfl ?_
           refine wlo 0 1 rfl rfl rfl (wo_run rfl rfl (run_fieldAddr rfl rfl Tryd.underlying38 rfl (ce3) (nf3)) ?_)
           refine wlo 1 2 rfl rfl rfl (wo_run rfl rfl (run_load1 rfl rfl Tryd.underlying3 rfl (S13.boxc (i := 0) rfl rfl)) ?_)
           refine wlo 2 3 rfl rfl rfl (wo_run rfl rfl (run_eql rfl rfl rfl) ?_)
           refine wl_end rfl ?_
           refine nm_sub [(0, _), (3, _), (4, _), (5, _), (68, _)] ⟨rfl, rfl, rfl, rfl, rfl, trivial⟩ ?_
           refine nm_thn ?_
           refine ws_condN PolyText_n60 PolyText_n61 rfl rfl rfl rfl (fun hb68 => ?_) (fun hb68 => ?_)
           ·replace hb68 := of_decide_eq_true hb68
            refine ws_region rfl ?_
            refine wlm 0 1 rfl rfl rfl rfl rfl rfl rfl ?_
            refine wlo 1 2 rfl rfl rfl (wo_run rfl rfl (run_addS rfl rfl rfl ((by (try simp only [List.length_append, List.length_cons, List.length_nil]); first | omega | (simp only [lens]; omega)))) ?_)
            refine wla 2 3 rfl rfl rfl rfl rfl rfl rfl ?_
            refine wl_end rfl ?_
            refine nm_blk ?_
            refine nm_sub [(0, _), (3, _), (4, _)] ⟨rfl, rfl, rfl, trivial⟩ ?_
            refine nm_thn ?_
            refine ws_region rfl ?_
            refine wlm 0 1 rfl rfl rfl rfl rfl rfl rfl ?_
            refine wlo 1 2 rfl rfl rfl (wo_run rfl rfl (run_add rfl rfl rfl (by first | omega | (simp only [lens]; omega))) ?_)
            refine wla 2 3 rfl rfl rfl rfl rfl rfl rfl ?_
            refine wl_end rfl ?_
            refine nm_lp ?_
            intro ax_ hax_
            refine ⟨_, ?hq14m, ⟨i + 1, (((s9 ++ ([32, 43, 32] : List UInt8)) ++ ((Lib.decDigits (max ((ga a i).c) (-((ga a i).c))).toNat) ++ ([42] : List UInt8))) ++ ([116] : List UInt8)), rfl, hax_.sub ⟨rfl, rfl, rfl, trivial⟩, S13.pick [] [] (by decide) trivial, ?hq14f0, ?hq14f1⟩⟩
            case hq14f0 => omega
            case hq14f1 => (rw [polT, ← hs9]; (first | rw [sgT_00 (by omega) (by omega)] | rw [sgT_01 (by omega) (by omega)] | rw [sgT_10 (by omega) (by omega)] | rw [sgT_11 (by omega) (by omega)]); (first | rw [bodyT_0 (by omega)] | rw [bodyT_1 (by omega) (by omega)] | rw [bodyT_2 (by omega) (by omega)]); (first | rw [powT_1 (by omega)] | rw [powT_2 (by omega)] | skip); (try unfold numT); all_goals (first | rfl | (simp only [List.append_assoc, List.append_nil, List.nil_append]; done) | (simp only [List.append_assoc, List.append_nil, List.nil_append]; rfl)))
            case hq14m => omega
           ·replace hb68 := of_decide_eq_false hb68
            refine ws_seqN PolyText_n62 PolyText_n63 rfl rfl rfl ?_
            refine ws_region rfl ?_
            refine wlo 0 1 rfl rfl rfl (wo_run rfl rfl (run_fieldAddr rfl rfl Tryd.underlying38 rfl (ce3) (nf3)) ?_)
            refine wlo 1 2 rfl rfl rfl (wo_run rfl rfl (run_load1 rfl rfl Tryd.underlying3 rfl (S13.boxc (i := 0) rfl rfl)) ?_)
            refine wlo 2 3 rfl rfl rfl (wo_run rfl rfl (run_neq rfl rfl rfl) ?_)
            refine wl_end rfl ?_
            refine nm_sub [(0, _), (3, _), (4, _), (5, _), (73, _)] ⟨rfl, rfl, rfl, rfl, rfl, trivial⟩ ?_
            refine nm_thn ?_
            refine ws_condN PolyText_n64 PolyText_n65 rfl rfl rfl rfl (fun hb73 => ?_) (fun hb73 => ?_)
            ·replace hb73 := of_decide_eq_true hb73
             refine ws_region rfl ?_
             refine wlm 0 1 rfl rfl rfl rfl rfl rfl rfl ?_
             refine wlo 1 2 rfl rfl rfl (wo_run rfl rfl (run_addS rfl rfl rfl ((by (try simp only [List.length_append, List.length_cons, List.length_nil]); first | omega | (simp only [lens]; omega)))) ?_)
             refine wlo 2 3 rfl rfl rfl (wo_run rfl rfl (run_fieldAddr rfl rfl Tryd.underlying38 rfl (ce3) (nf3)) ?_)
             refine wlo 3 4 rfl rfl rfl (wo_run rfl rfl (run_load1 rfl rfl Tryd.underlying3 rfl (S13.boxc (i := 0) rfl rfl)) ?_)
             refine wlo 4 5 rfl rfl rfl (wo_cq rfl rfl rfl rfl rfl rfl rfl cf33 S13 (dec_z ((ga a i).e) (by omega) S13.lend) ?_)
             rintro _ w15 S15 rfl; clear S13
             refine wlo 5 6 rfl rfl rfl (wo_run rfl rfl (run_addS rfl rfl rfl ((by (try simp only [List.length_append, List.length_cons, List.length_nil]); first | omega | (simp only [lens]; omega)))) ?_)
             refine wla 6 7 rfl rfl rfl rfl rfl rfl rfl ?_
             refine wl_end rfl ?_
             refine nm_blk ?_
             refine nm_sub [(0, _), (3, _), (4, _)] ⟨rfl, rfl, rfl, trivial⟩ ?_
             refine nm_thn ?_
             refine ws_region rfl ?_
             refine wlm 0 1 rfl rfl rfl rfl rfl rfl rfl ?_
             refine wlo 1 2 rfl rfl rfl (wo_run rfl rfl (run_add rfl rfl rfl (by first | omega | (simp only [lens]; omega))) ?_)
             refine wla 2 3 rfl rfl rfl rfl rfl rfl rfl ?_
             refine wl_end rfl ?_
             refine nm_lp ?_
             intro ax_ hax_
             refine ⟨_, ?hq15m, ⟨i + 1, ((((s9 ++ ([32, 43, 32] : List UInt8)) ++ ((Lib.decDigits (max ((ga a i).c) (-((ga a i).c))).toNat) ++ ([42] : List UInt8))) ++ ([116, 94] : List UInt8)) ++ (Lib.itoa ((ga a i).e))), rfl, hax_.sub ⟨rfl, rfl, rfl, trivial⟩, S15.pick [] [] (by decide) trivial, ?hq15f0, ?hq15f1⟩⟩
             case hq15f0 => omega
             case hq15f1 => (rw [polT, ← hs9]; (first | rw [sgT_00 (by omega) (by omega)] | rw [sgT_01 (by omega) (by omega)] | rw [sgT_10 (by omega) (by omega)] | rw [sgT_11 (by omega) (by omega)]); (first | rw [bodyT_0 (by omega)] | rw [bodyT_1 (by omega) (by omega)] | rw [bodyT_2 (by omega) (by omega)]); (first | rw [powT_1 (by omega)] | rw [powT_2 (by omega)] | skip); (try unfold numT); all_goals (first | rfl | (simp only [List.append_assoc, List.append_nil, List.nil_append]; done) | (simp only [List.append_assoc, List.append_nil, List.nil_append]; rfl)))
             case hq15m => omega
            ·replace hb73 := of_decide_eq_false hb73
             exfalso; omega
          ·replace hb60 := of_decide_eq_false hb60
           exfalso; omega
        ·replace hg54 := of_decide_eq_false hg54
         refine wl_no (k := 4) (k' := 5) (d := 55) rfl rfl ⟨_, _, _, rfl, rfl, rfl, rfl⟩ rfl rfl ?_
         refine wl_no (k := 5) (k' := 6) (d := 56) rfl rfl ⟨_, _, _, rfl, rfl, rfl, rfl⟩ rfl rfl ?_
         refine wlo 6 7 rfl rfl rfl (wo_run rfl rfl (run_pickF rfl rfl rfl) ?_)
         refine wl_end rfl ?_
         refine nm_sub [(0, _), (3, _), (4, _), (5, _), (6, _), (57, _)] ⟨rfl, rfl, rfl, rfl, rfl, rfl, trivial⟩ ?_
         refine nm_thn ?_
         refine ws_condFN PolyText_n55 rfl rfl rfl ?_
         refine ws_seqN PolyText_n66 PolyText_n67 rfl rfl rfl ?_
         refine ws_region rfl ?_
         refine wlo 0 1 rfl rfl rfl (wo_run rfl rfl (run_fieldAddr rfl rfl Tryd.underlying38 rfl (ce3) (nf3)) ?_)
         refine wlo 1 2 rfl rfl rfl (wo_run rfl rfl (run_load1 rfl rfl Tryd.underlying3 rfl (S13.boxc (i := 0) rfl rfl)) ?_)
         refine wlo 2 3 rfl rfl rfl (wo_run rfl rfl (run_neq rfl rfl rfl) ?_)
         refine wl_end rfl ?_
         refine nm_sub [(0, _), (3, _), (4, _), (5, _), (6, _), (60, _)] ⟨rfl, rfl, rfl, rfl, rfl, rfl, trivial⟩ ?_
         refine nm_thn ?_
         refine ws_condN PolyText_n68 PolyText_n69 rfl rfl rfl rfl (fun hb60 => ?_) (fun hb60 => ?_)
         ·replace hb60 := of_decide_eq_true hb60
          exfalso; omega
         ·replace hb60 := of_decide_eq_false hb60
          refine ws_skip rfl ?_
          refine nm_sub [(0, _), (3, _), (4, _), (5, _), (6, _)] ⟨rfl, rfl, rfl, rfl, rfl, trivial⟩ ?_
          refine nm_thn ?_
          refine ws_seqN PolyText_n56 PolyText_n57 rfl rfl rfl ?_
          refine ws_region rfl ?_
          refine wlm 0 1 rfl rfl rfl rfl rfl rfl rfl ?_
          refine wlm 1 2 rfl rfl rfl rfl rfl rfl rfl ?_
          refine wlo 2 3 rfl rfl rfl (wo_run rfl rfl (run_addS rfl rfl rfl ((by (try simp only [List.length_append, List.length_cons, List.length_nil]); first | omega | (simp only [lens]; omega)))) ?_)
          refine wla 3 4 rfl rfl rfl rfl rfl rfl rfl ?_
          refine wl_end rfl ?_
          refine nm_sub [(0, _), (3, _), (4, _), (5, _)] ⟨rfl, rfl, rfl, rfl, trivial⟩ ?_
          refine nm_thn ?_
          refine ws_seqN PolyText_n58 PolyText_n59 rfl rfl rfl ?_
          refine ws_region rfl ?_
          refine wlo 0 1 rfl rfl rfl (wo_run rfl rfl (run_fieldAddr rfl rfl Tryd.underlying38 rfl (ce3) (nf3)) ?_)
          refine wlo 1 2 rfl rfl rfl (wo_run rfl rfl (run_load1 rfl rfl Tryd.underlying3 rfl (S13.boxc (i := 0) rfl rfl)) ?_)
          refine wlo 2 3 rfl rfl rfl (wo_run rfl rfl (run_eql rfl rfl rfl) ?_)
          refine wl_end rfl ?_
          refine nm_sub [(0, _), (3, _), (4, _), (5, _), (68, _)] ⟨rfl, rfl, rfl, rfl, rfl, trivial⟩ ?_
          refine nm_thn ?_
          refine ws_condN PolyText_n60 PolyText_n61 rfl rfl rfl rfl (fun hb68 => ?_) (fun hb68 => ?_)
          ·replace hb68 := of_decide_eq_true hb68
           exfalso; omega
          ·replace hb68 := of_decide_eq_false hb68
           refine ws_seqN PolyText_n62 PolyText_n63 rfl rfl rfl ?_
           refine ws_region rfl ?_
           refine wlo 0 1 rfl rfl rfl (wo_run rfl rfl (run_fieldAddr rfl rfl Tryd.underlying38 rfl (ce3) (nf3)) ?_)
           refine wlo 1 2 rfl rfl rfl (wo_run rfl rfl (run_load1 rfl rfl Tryd.underlying3 rfl (S13.boxc (i := 0) rfl rfl)) ?_)
           refine wlo 2 3 rfl rfl rfl (wo_run rfl rfl (run_neq rfl rfl rfl) ?_)
           refine wl_end rfl ?_
           refine nm_sub [(0, _), (3, _), (4, _), (5, _), (73, _)] ⟨rfl, rfl, rfl, rfl, rfl, trivial⟩ ?_
           refine nm_thn ?_
           refine ws_condN PolyText_n64 PolyText_n65 rfl rfl rfl rfl (fun hb73 => ?_) (fun hb73 => ?_)
           ·replace hb73 := of_decide_eq_true hb73
            exfalso; omega
           ·replace hb73 := of_decide_eq_false hb73
            refine ws_skip rfl ?_
            refine nm_blk ?_
            refine nm_sub [(0, _), (3, _), (4, _)] ⟨rfl, rfl, rfl, trivial⟩ ?_
            refine nm_thn ?_
            refine ws_region rfl ?_
            refine wlm 0 1 rfl rfl rfl rfl rfl rfl rfl ?_
            refine wlo 1 2 rfl rfl rfl (wo_run rfl rfl (run_add rfl rfl rfl (by first | omega | (simp only [lens]; omega))) ?_)
            refine wla 2 3 rfl rfl rfl rfl rfl rfl rfl ?_
            refine wl_end rfl ?_
            refine nm_lp ?_
            intro ax_ hax_
            refine ⟨_, ?hq16m, ⟨i + 1, ((s9 ++ ([32, 43, 32] : List UInt8)) ++ (Lib.decDigits (max ((ga a i).c) (-((ga a i).c))).toNat)), rfl, hax_.sub ⟨rfl, rfl, rfl, trivial⟩, S13.pick [] [] (by decide) trivial, ?hq16f0, ?hq16f1⟩⟩
            case hq16f0 => omega
            case hq16f1 => (rw [polT, ← hs9]; (first | rw [sgT_00 (by omega) (by omega)] | rw [sgT_01 (by omega) (by omega)] | rw [sgT_10 (by omega) (by omega)] | rw [sgT_11 (by omega) (by omega)]); (first | rw [bodyT_0 (by omega)] | rw [bodyT_1 (by omega) (by omega)] | rw [bodyT_2 (by omega) (by omega)]); (first | rw [powT_1 (by omega)] | rw [powT_2 (by omega)] | skip); (try unfold numT); all_goals (first | rfl | (simp only [List.append_assoc, List.append_nil, List.nil_append]; done) | (simp only [List.append_assoc, List.append_nil, List.nil_append]; rfl)))
            case hq16m => omega
       ·replace hb44 := of_decide_eq_false hb44
        refine ws_skip rfl ?_
        refine nm_sub [(0, _), (3, _), (4, _), (5, _)] ⟨rfl, rfl, rfl, rfl, trivial⟩ ?_
        refine nm_thn ?_
        refine ws_seqN PolyText_n48 PolyText_n49 rfl rfl rfl ?_
        refine ws_region rfl ?_
        refine wlo 0 1 rfl rfl rfl (wo_run rfl rfl (run_fieldAddr rfl rfl Tryd.underlying38 rfl (ce3) (nf3)) ?_)
        refine wlo 1 2 rfl rfl rfl (wo_run rfl rfl (run_load1 rfl rfl Tryd.underlying3 rfl (S3.boxc (i := 0) rfl rfl)) ?_)
        refine wlo 2 3 rfl rfl rfl (wo_cq rfl rfl rfl rfl rfl rfl rfl cf34 S3 (absR_q ((ga a i).c) ((by omega)) S3.lend) ?_)
        rintro _ w16 S16 rfl; clear S3
        refine wlo 3 4 rfl rfl rfl (wo_cq rfl rfl rfl rfl rfl rfl rfl cf33 S16 (dec_u (max ((ga a i).c) (-((ga a i).c))) (by omega) S16.lend) ?_)
        rintro _ w17 S17 rfl; clear S16
        refine wla 4 5 rfl rfl rfl rfl rfl rfl rfl ?_
        refine wl_end rfl ?_
        refine nm_sub [(0, _), (3, _), (4, _), (5, _), (6, _)] ⟨rfl, rfl, rfl, rfl, rfl, trivial⟩ ?_
        refine nm_thn ?_
        refine ws_seqN PolyText_n50 PolyText_n51 rfl rfl rfl ?_
        refine ws_seqN PolyText_n52 PolyText_n53 rfl rfl rfl ?_
        refine ws_region rfl ?_
        refine wlo 0 1 rfl rfl rfl (wo_run rfl rfl (run_fieldAddr rfl rfl Tryd.underlying38 rfl (ce3) (nf3)) ?_)
        refine wlo 1 2 rfl rfl rfl (wo_run rfl rfl (run_load1 rfl rfl Tryd.underlying3 rfl (S17.boxc (i := 0) rfl rfl)) ?_)
        refine wlo 2 3 rfl rfl rfl (wo_run rfl rfl (run_neq rfl rfl rfl) ?_)
        refine wlm 3 4 rfl rfl rfl rfl rfl rfl rfl ?_
        refine wl_split (t := 54) rfl (fun hg54 => ?_) (fun hg54 => ?_)
        ·replace hg54 := of_decide_eq_true hg54
         refine wl_opG (k := 4) (k' := 5) rfl rfl ⟨_, _, _, rfl, rfl, rfl, rfl⟩ rfl (wo_run rfl rfl (run_move rfl rfl) ?_)
         refine wl_opG (k := 5) (k' := 6) rfl rfl ⟨_, _, _, rfl, rfl, rfl, rfl⟩ rfl (wo_run rfl rfl (run_eqlD rfl rfl rfl) ?_)
         refine wlo 6 7 rfl rfl rfl (wo_run rfl rfl (run_pickT rfl rfl rfl) ?_)
         refine wl_end rfl ?_
         refine nm_sub [(0, _), (3, _), (4, _), (5, _), (6, _), (57, _)] ⟨rfl, rfl, rfl, rfl, rfl, rfl, trivial⟩ ?_
         refine nm_thn ?_
         refine ws_condN PolyText_n54 PolyText_n55 rfl rfl rfl rfl (fun hb57 => ?_) (fun hb57 => ?_)
         ·replace hb57 := of_decide_eq_true hb57
          have hone : max (ga a i).c (-(ga a i).c) = 1 := by have := dec_one.1 hb57; omega
          refine ws_region rfl ?_
          refine wla 0 1 rfl rfl rfl rfl rfl rfl rfl ?_
          refine wl_end rfl ?_
          refine nm_sub [(0, _), (3, _), (4, _), (5, _), (6, _)] ⟨rfl, rfl, rfl, rfl, rfl, trivial⟩ ?_
          refine nm_thn ?_
          refine ws_seqN PolyText_n56 PolyText_n57 rfl rfl rfl ?_
          refine ws_region rfl ?_
          refine wlm 0 1 rfl rfl rfl rfl rfl rfl rfl ?_
          refine wlm 1 2 rfl rfl rfl rfl rfl rfl rfl ?_
          refine wlo 2 3 rfl rfl rfl (wo_run rfl rfl (run_addS rfl rfl rfl ((by (try simp only [List.length_append, List.length_cons, List.length_nil]); first | omega | (simp only [lens]; omega)))) ?_)
          refine wla 3 4 rfl rfl rfl rfl rfl rfl rfl ?_
          refine wl_end rfl ?_
          refine nm_sub [(0, _), (3, _), (4, _), (5, _)] ⟨rfl, rfl, rfl, rfl, trivial⟩ ?_
          refine nm_thn ?_
          refine ws_seqN PolyText_n58 PolyText_n59 rfl rfl rfl ?_
          refine ws_region rfl ?_
          refine wlo 0 1 rfl rfl rfl (wo_run rfl rfl (run_fieldAddr rfl rfl Tryd.underlying38 rfl (ce3) (nf3)) ?_)
          refine wlo 1 2 rfl rfl rfl (wo_run rfl rfl (run_load1 rfl rfl Tryd.underlying3 rfl (S17.boxc (i := 0) rfl rfl)) ?_)
          refine wlo 2 3 rfl rfl rfl (wo_run rfl rfl (run_eql rfl rfl rfl) ?_)
          refine wl_end rfl ?_
          refine nm_sub [(0, _), (3, _), (4, _), (5, _), (68, _)] ⟨rfl, rfl, rfl, rfl, rfl, trivial⟩ ?_
          refine nm_thn ?_
          refine ws_condN PolyText_n60 PolyText_n61 rfl rfl rfl rfl (fun hb68 => ?_) (fun hb68 => ?_)
          ·replace hb68 := of_decide_eq_true hb68
           refine ws_region rfl ?_
           refine wlm 0 1 rfl rfl rfl rfl rfl rfl rfl ?_
           refine wlo 1 2 rfl rfl rfl (wo_run rfl rfl (run_addS rfl rfl rfl ((by (try simp only [List.length_append, List.length_cons, List.length_nil]); first | omega | (simp only [lens]; omega)))) ?_)
           refine wla 2 3 rfl rfl rfl rfl rfl rfl rfl ?_
           refine wl_end rfl ?_
           refine nm_blk ?_
           refine nm_sub [(0, _), (3, _), (4, _)] ⟨rfl, rfl, rfl, trivial⟩ ?_
           refine nm_thn ?_
           refine ws_region rfl ?_
           refine wlm 0 1 rfl rfl rfl rfl rfl rfl rfl ?_
           refine wlo 1 2 rfl rfl rfl (wo_run rfl rfl (run_add rfl rfl rfl (by first | omega | (simp only [lens]; omega))) ?_)
           refine wla 2 3 rfl rfl rfl rfl rfl rfl rfl ?_
           refine wl_end rfl ?_
           refine nm_lp ?_
           intro ax_ hax_
           refine ⟨_, ?hq17m, ⟨i + 1, ((s9 ++ ([] : List UInt8)) ++ ([116] : List UInt8)), rfl, hax_.sub ⟨rfl, rfl, rfl, trivial⟩, S17.pick [] [] (by decide) trivial, ?hq17f0, ?hq17f1⟩⟩
           case hq17f0 => omega
           case hq17f1 => (rw [polT, ← hs9]; (first | rw [sgT_00 (by omega) (by omega)] | rw [sgT_01 (by omega) (by omega)] | rw [sgT_10 (by omega) (by omega)] | rw [sgT_11 (by omega) (by omega)]); (first | rw [bodyT_0 (by omega)] | rw [bodyT_1 (by omega) (by omega)] | rw [bodyT_2 (by omega) (by omega)]); (first | rw [powT_1 (by omega)] | rw [powT_2 (by omega)] | skip); (try unfold numT); all_goals (first | rfl | (simp only [List.append_assoc, List.append_nil, List.nil_append]; done) | (simp only [List.append_assoc, List.append_nil, List.nil_append]; rfl)))
           case hq17m => omega
          ·replace hb68 := of_decide_eq_false hb68
           refine ws_seqN PolyText_n62 PolyText_n63 rfl rfl rfl ?_
           refine ws_region rfl ?_
           refine wlo 0 1 rfl rfl rfl (wo_run rfl rfl (run_fieldAddr rfl rfl Tryd.underlying38 rfl (ce3) (nf3)) ?_)
           refine wlo 1 2 rfl rfl rfl (wo_run rfl rfl (run_load1 rfl rfl Tryd.underlying3 rfl (S17.boxc (i := 0) rfl rfl)) ?_)
           refine wlo 2 3 rfl rfl rfl (wo_run rfl rfl (run_neq rfl rfl rfl) ?_)
           refine wl_end rfl ?_
           refine nm_sub [(0, _), (3, _), (4, _), (5, _), (73, _)] ⟨rfl, rfl, rfl, rfl, rfl, trivial⟩ ?_
           refine nm_thn ?_
           refine ws_condN PolyText_n64 PolyText_n65 rfl rfl rfl rfl (fun hb73 => ?_) (fun hb73 => ?_)
           ·replace hb73 := of_decide_eq_true hb73
            refine ws_region rfl ?_
            refine wlm 0 1 rfl rfl rfl rfl rfl rfl rfl ?_
            refine wlo 1 2 rfl rfl rfl (wo_run rfl rfl (run_addS rfl rfl rfl ((by (try simp only [List.length_append, List.length_cons, List.length_nil]); first | omega | (simp only [lens]; omega)))) ?_)
            refine wlo 2 3 rfl rfl rfl (wo_run rfl rfl (run_fieldAddr rfl rfl Tryd.underlying38 rfl (ce3) (nf3)) ?_)
            refine wlo 3 4 rfl rfl rfl (wo_run rfl rfl (run_load1 rfl rfl Tryd.underlying3 rfl (S17.boxc (i := 0) rfl rfl)) ?_)
            refine wlo 4 5 rfl rfl rfl (wo_cq rfl rfl rfl rfl rfl rfl rfl cf33 S17 (dec_z ((ga a i).e) (by omega) S17.lend) ?_)
            rintro _ w18 S18 rfl; clear S17
            refine wlo 5 6 rfl rfl rfl (wo_run rfl rfl (run_addS rfl rfl rfl ((by (try simp only [List.length_append, List.length_cons, List.length_nil]); first | omega | (simp only [lens]; omega)))) ?_)
            refine wla 6 7 rfl rfl rfl rfl rfl rfl rfl ?_
            refine wl_end rfl ?_
            refine nm_blk ?_
            refine nm_sub [(0, _), (3, _), (4, _)] ⟨rfl, rfl, rfl, trivial⟩ ?_
            refine nm_thn ?_
            refine ws_region rfl ?_
            refine wlm 0 1 rfl rfl rfl rfl rfl rfl rfl ?_
            refine wlo 1 2 rfl rfl rfl (wo_run rfl rfl (run_add rfl rfl rfl (by first | omega | (simp only [lens]; omega))) ?_)
            refine wla 2 3 rfl rfl rfl rfl rfl rfl rfl ?_
            refine wl_end rfl ?_
            refine nm_lp ?_
            intro ax_ hax_
            refine ⟨_, ?hq18m, ⟨i + 1, (((s9 ++ ([] : List UInt8)) ++ ([116, 94] : List UInt8)) ++ (Lib.itoa ((ga a i).e))), rfl, hax_.sub ⟨rfl, rfl, rfl, trivial⟩, S18.pick [] [] (by decide) trivial, ?hq18f0, ?hq18f1⟩⟩
            case hq18f0 => omega
            case hq18f1 => (rw [polT, ← hs9]; (first | rw [sgT_00 (by omega) (by omega)] | rw [sgT_01 (by omega) (by omega)] | rw [sgT_10 (by omega) (by omega)] | rw [sgT_11 (by omega) (by omega)]); (first | rw [bodyT_0 (by omega)] | rw [bodyT_1 (by omega) (by omega)] | rw [bodyT_2 (by omega) (by omega)]); (first | rw [powT_1 (by omega)] | rw [powT_2 (by omega)] | skip); (try unfold numT); all_goals (first | rfl | (simp only [List.append_assoc, List.append_nil, List.nil_append]; done) | (simp only [List.append_assoc, List.append_nil, List.nil_append]; rfl)))
            case hq18m => omega
           ·replace hb73 := of_decide_eq_false hb73
            exfalso; omega
         ·replace hb57 := of_decide_eq_false hb57
          have hone : ¬ max (ga a i).c (-(ga a i).c) = 1 := fun h => hb57 (dec_one.2 (by omega))
          refine ws_seqN PolyText_n66 PolyText_n67 rfl rfl rfl ?_
          refine ws_region rfl ?_
          refine wlo 0 1 rfl rfl rfl (wo_run rfl rfl (run_fieldAddr rfl rfl Tryd.underlying38 rfl (ce3) (nf3)) ?_)
          refine wlo 1 2 rfl rfl rfl (wo_run rfl rfl (run_load1 rfl rfl Tryd.underlying3 rfl (S17.boxc (i := 0) rfl rfl)) ?_)
          refine wlo 2 3 rfl rfl rfl (wo_run rfl rfl (run_neq rfl rfl rfl) ?_)
          refine wl_end rfl ?_
          refine nm_sub [(0, _), (3, _), (4, _), (5, _), (6, _), (60, _)] ⟨rfl, rfl, rfl, rfl, rfl, rfl, trivial⟩ ?_
          refine nm_thn ?_
          refine ws_condN PolyText_n68 PolyText_n69 rfl rfl rfl rfl (fun hb60 => ?_) (fun hb60 => ?_)
          ·replace hb60 := of_decide_eq_true hb60
           refine ws_region rfl ?_
           refine wlm 0 1 rfl rfl rfl rfl rfl rfl rfl ?_
           refine wlo 1 2 rfl rfl rfl (wo_run rfl rfl (run_addS rfl rfl rfl ((by (try simp only [List.length_append, List.length_cons, List.length_nil]); first | omega | (simp only [lens]; omega)))) ?_)
           refine wla 2 3 rfl rfl rfl rfl rfl rfl rfl ?_
           refine wl_end rfl ?_
           refine nm_sub [(0, _), (3, _), (4, _), (5, _), (6, _)] ⟨rfl, rfl, rfl, rfl, rfl, trivial⟩ ?_
           refine nm_thn ?_
           refine ws_seqN PolyText_n56 PolyText_n57 rfl rfl rfl ?_
           refine ws_region rfl ?_
           refine wlm 0 1 rfl rfl rfl rfl rfl rfl rfl ?_
           refine wlm 1 2 rfl rfl rfl rfl rfl rfl rfl ?_
           refine wlo 2 3 rfl rfl rfl (wo_run rfl rfl (run_addS rfl rfl rfl ((by (try simp only [List.length_append, List.length_cons, List.length_nil]); first | omega | (simp only [lens]; omega)))) ?_)
           refine wla 3 4 rfl rfl rfl rfl rfl rfl rfl ?_
           refine wl_end rfl ?_
           refine nm_sub [(0, _), (3, _), (4, _), (5, _)] ⟨rfl, rfl, rfl, rfl, trivial⟩ ?_
           refine nm_thn ?_
           refine ws_seqN PolyText_n58 PolyText_n59 rfl rfl rfl ?_
           refine ws_region rfl ?_
           refine wlo 0 1 rfl rfl rfl (wo_run rfl rfl (run_fieldAddr rfl rfl Tryd.underlying38 rfl (ce3) (nf3)) ?_)
           refine wlo 1 2 rfl rfl rfl (wo_run rfl rfl (run_load1 rfl rfl Tryd.underlying3 rfl (S17.boxc (i := 0) rfl rfl)) ?_)
           refine wlo 2 3 rfl rfl rfl (wo_run rfl rfl (run_eql rfl rfl rfl) ?_)
           refine wl_end rfl ?_
           refine nm_sub [(0, _), (3, _), (4, _), (5, _), (68, _)] ⟨rfl, rfl, rfl, rfl, rfl, trivial⟩ ?_
           refine nm_thn ?_
           refine ws_condN PolyText_n60 PolyText_n61 rfl rfl rfl rfl (fun hb68 => ?_) (fun hb68 => ?_)
           ·replace hb68 := of_decide_eq_true hb68
            refine ws_region rfl ?_
            refine wlm 0 1 rfl rfl rfl rfl rfl rfl rfl ?_
            refine wlo 1 2 rfl rfl rfl (wo_run rfl rfl (run_addS rfl rfl rfl ((by (try simp only [List.length_append, List.length_cons, List.length_nil]); first | omega | (simp only [lens]; omega)))) ?_)
            refine wla 2 3 rfl rfl rfl rfl rfl rfl rfl ?_
            refine wl_end rfl ?_
            refine nm_blk ?_
            refine nm_sub [(0, _), (3, _), (4, _)] ⟨rfl, rfl, rfl, trivial⟩ ?_
            refine nm_thn ?_
            refine ws_region rfl ?_
            refine wlm 0 1 rfl rfl rfl rfl rfl rfl rfl ?_
            refine wlo 1 2 rfl rfl rfl (wo_run rfl rfl (run_add rfl rfl rfl (by first | omega | (simp only [lens]; omega))) ?_)
            refine wla 2 3 rfl rfl rfl rfl rfl rfl rfl ?_
            refine wl_end rfl ?_
            refine nm_lp ?_
            intro ax_ hax_
            refine ⟨_, ?hq19m, ⟨i + 1, ((s9 ++ ((Lib.decDigits (max ((ga a i).c) (-((ga a i).c))).toNat) ++ ([42] : List UInt8))) ++ ([116] : List UInt8)), rfl, hax_.sub ⟨rfl, rfl, rfl, trivial⟩, S17.pick [] [] (by decide) trivial, ?hq19f0, ?hq19f1⟩⟩
            case hq19f0 => omega
            case hq19f1 => (rw [polT, ← hs9]; (first | rw [sgT_00 (by omega) (by omega)] | rw [sgT_01 (by omega) (by omega)] | rw [sgT_10 (by omega) (by omega)] | rw [sgT_11 (by omega) (by omega)]); (first | rw [bodyT_0 (by omega)] | rw [bodyT_1 (by omega) (by omega)] | rw [bodyT_2 (by omega) (by omega)]); (first | rw [powT_1 (by omega)] | rw [powT_2 (by omega)] | skip); (try unfold numT); all_goals (first | rfl | (simp only [List.append_assoc, List.append_nil, List.nil_append]; done) | (simp only [List.append_assoc, List.append_nil, List.nil_append]; rfl)))
            case hq19m => omega
           ·replace hb68 := of_decide_eq_false hb68
            refine ws_seqN PolyText_n62 PolyText_n63 rfl rfl rfl ?_
            refine ws_region rfl ?_
            refine wlo 0 1 rfl rfl rfl (wo_run rfl rfl (run_fieldAddr rfl rfl Tryd.underlying38 rfl (ce3) (nf3)) ?_)
            refine wlo 1 2 rfl rfl rfl (wo_run rfl rfl (run_load1 rfl rfl Tryd.underlying3 rfl (S17.boxc (i := 0) rfl rfl)) ?_)
            refine wlo 2 3 rfl rfl rfl (wo_run rfl rfl (run_neq rfl rfl rfl) ?_)
            refine wl_end rfl ?_
            refine nm_sub [(0, _), (3, _), (4, _), (5, _), (73, _)] ⟨rfl, rfl, rfl, rfl, rfl, trivial⟩ ?_
            refine nm_thn ?_
            refine ws_condN PolyText_n64 PolyText_n65 rfl rfl rfl rfl (fun hb73 => ?_) (fun hb73 => ?_)
            ·replace hb73 := of_decide_eq_true hb73
             refine ws_region rfl ?_
             refine wlm 0 1 rfl rfl rfl rfl rfl rfl rfl ?_
             refine wlo 1 2 rfl rfl rfl (wo_run rfl rfl (run_addS rfl rfl rfl ((by (try simp only [List.length_append, List.length_cons, List.length_nil]); first | omega | (simp only [lens]; omega)))) ?_)
             refine wlo 2 3 rfl rfl rfl (wo_run rfl rfl (run_fieldAddr rfl rfl Tryd.underlying38 rfl (ce3) (nf3)) ?_)
             refine wlo 3 4 rfl rfl rfl (wo_run rfl rfl (run_load1 rfl rfl Tryd.underlying3 rfl (S17.boxc (i := 0) rfl rfl)) ?_)
             refine wlo 4 5 rfl rfl rfl (wo_cq rfl rfl rfl rfl rfl rfl rfl cf33 S17 (dec_z ((ga a i).e) (by omega) S17.lend) ?_)
             rintro _ w19 S19 rfl; clear S17
             refine wlo 5 6 rfl rfl rfl (wo_run rfl rfl (run_addS rfl rfl rfl ((by (try simp only [List.length_append, List.length_cons, List.length_nil]); first | omega | (simp only [lens]; omega)))) ?_)
             refine wla 6 7 rfl rfl rfl rfl rfl rfl rfl ?_
             refine wl_end rfl ?_
             refine nm_blk ?_
             refine nm_sub [(0, _), (3, _), (4, _)] ⟨rfl, rfl, rfl, trivial⟩ ?_
             refine nm_thn ?_
             refine ws_region rfl ?_
             refine wlm 0 1 rfl rfl rfl rfl rfl rfl rfl ?_
             refine wlo 1 2 rfl rfl rfl (wo_run rfl rfl (run_add rfl rfl rfl (by first | omega | (simp only [lens]; omega))) ?_)
             refine wla 2 3 rfl rfl rfl rfl rfl rfl rfl ?_
             refine wl_end rfl ?_
             refine nm_lp ?_
             intro ax_ hax_
             refine ⟨_, ?hq20m, ⟨i + 1, (((s9 ++ ((Lib.decDigits (max ((ga a i).c) (-((ga a i).c))).toNat) ++ ([42] : List UInt8))) ++ ([116, 94] : List UInt8)) ++ (Lib.itoa ((ga a i).e))), rfl, hax_.sub ⟨rfl, rfl, rfl, trivial⟩, S19.pick [] [] (by decide) trivial, ?hq20f0, ?hq20f1⟩⟩
             case hq20f0 => omega
             case hq20f1 => (rw [polT, ← hs9]; (first | rw [sgT_00 (by omega) (by omega)] | rw [sgT_01 (by omega) (by omega)] | rw [sgT_10 (by omega) (by omega)] | rw [sgT_11 (by omega) (by omega)]); (first | rw [bodyT_0 (by omega)] | rw [bodyT_1 (by omega) (by omega)] | rw [bodyT_2 (by omega) (by omega)]); (first | rw [powT_1 (by omega)] | rw [powT_2 (by omega)] | skip); (try unfold numT); all_goals (first | rfl | (simp only [List.append_assoc, List.append_nil, List.nil_append]; done) | (simp only [List.append_assoc, List.append_nil, List.nil_append]; rfl)))
             case hq20m => omega
            ·replace hb73 := of_decide_eq_false hb73
             exfalso; omega
          ·replace hb60 := of_decide_eq_false hb60
           exfalso; omega
        ·replace hg54 := of_decide_eq_false hg54
         refine wl_no (k := 4) (k' := 5) (d := 55) rfl rfl ⟨_, _, _, rfl, rfl, rfl, rfl⟩ rfl rfl ?_
         refine wl_no (k := 5) (k' := 6) (d := 56) rfl rfl ⟨_, _, _, rfl, rfl, rfl, rfl⟩ rfl rfl ?_
         refine wlo 6 7 rfl rfl rfl (wo_run rfl rfl (run_pickF rfl rfl rfl) ?_)
         refine wl_end rfl ?_
         refine nm_sub [(0, _), (3, _), (4, _), (5, _), (6, _), (57, _)] ⟨rfl, rfl, rfl, rfl, rfl, rfl, trivial⟩ ?_
         refine nm_thn ?_
         refine ws_condFN PolyText_n55 rfl rfl rfl ?_
         refine ws_seqN PolyText_n66 PolyText_n67 rfl rfl rfl ?_
         refine ws_region rfl ?_
         refine wlo 0 1 rfl rfl rfl (wo_run rfl rfl (run_fieldAddr rfl rfl Tryd.underlying38 rfl (ce3) (nf3)) ?_)
         refine wlo 1 2 rfl rfl rfl (wo_run rfl rfl (run_load1 rfl rfl Tryd.underlying3 rfl (S17.boxc (i := 0) rfl rfl)) ?_)
         refine wlo 2 3 rfl rfl rfl (wo_run rfl rfl (run_neq rfl rfl rfl) ?_)
         refine wl_end rfl ?_
         refine nm_sub [(0, _), (3, _), (4, _), (5, _), (6, _), (60, _)] ⟨rfl, rfl, rfl, rfl, rfl, rfl, trivial⟩ ?_
         refine nm_thn ?_
         refine ws_condN PolyText_n68 PolyText_n69 rfl rfl rfl rfl (fun hb60 => ?_) (fun hb60 => ?_)
         ·replace hb60 := of_decide_eq_true hb60
          exfalso; omega
         ·replace hb60 := of_decide_eq_false hb60
          refine ws_skip rfl ?_
          refine nm_sub [(0, _), (3, _), (4, _), (5, _), (6, _)] ⟨rfl, rfl, rfl, rfl, rfl, trivial⟩ ?_
          refine nm_thn ?_
          refine ws_seqN PolyText_n56 PolyText_n57 rfl rfl rfl ?_
          refine ws_region rfl ?_
          refine wlm 0 1 rfl rfl rfl rfl rfl rfl rfl ?_
          refine wlm 1 2 rfl rfl rfl rfl rfl rfl rfl ?_
          refine wlo 2 3 rfl rfl rfl (wo_run rfl rfl (run_addS rfl rfl rfl ((by (try simp only [List.length_append, List.length_cons, List.length_nil]); first | omega | (simp only [lens]; omega)))) ?_)
          refine wla 3 4 rfl rfl rfl rfl rfl rfl rfl ?_
          refine wl_end rfl ?_
          refine nm_sub [(0, _), (3, _), (4, _), (5, _)] ⟨rfl, rfl, rfl, rfl, trivial⟩ ?_
          refine nm_thn ?_
          refine ws_seqN PolyText_n58 PolyText_n59 rfl rfl rfl ?_
          refine ws_region rfl ?_
          refine wlo 0 1 rfl rfl rfl (wo_run rfl rfl (run_fieldAddr rfl rfl Tryd.underlying38 rfl (ce3) (nf3)) ?_)
          refine wlo 1 2 rfl rfl rfl (wo_run rfl rfl (run_load1 rfl rfl Tryd.underlying3 rfl (S17.boxc (i := 0) rfl rfl)) ?_)
          refine wlo 2 3 rfl rfl rfl (wo_run rfl rfl (run_eql rfl rfl rfl) ?_)
          refine wl_end rfl ?_
          refine nm_sub [(0, _), (3, _), (4, _), (5, _), (68, _)] ⟨rfl, rfl, rfl, rfl, rfl, trivial⟩ ?_
          refine nm_thn ?_
          refine ws_condN PolyText_n60 PolyText_n61 rfl rfl rfl rfl (fun hb68 => ?_) (fun hb68 => ?_)
          ·replace hb68 := of_decide_eq_true hb68
           exfalso; omega
          ·replace hb68 := of_decide_eq_false hb68
           refine ws_seqN PolyText_n62 PolyText_n63 rfl rfl rfl ?_
           refine ws_region rfl ?_
           refine wlo 0 1 rfl rfl rfl (wo_run rfl rfl (run_fieldAddr rfl rfl Tryd.underlying38 rfl (ce3) (nf3)) ?_)
           refine wlo 1 2 rfl rfl rfl (wo_run rfl rfl (run_load1 rfl rfl Tryd.underlying3 rfl (S17.boxc (i := 0) rfl rfl)) ?_)
           refine wlo 2 3 rfl rfl rfl (wo_run rfl rfl (run_neq rfl rfl rfl) ?_)
           refine wl_end rfl ?_
           refine nm_sub [(0, _), (3, _), (4, _), (5, _), (73, _)] ⟨rfl, rfl, rfl, rfl, rfl, trivial⟩ ?_
           refine nm_thn ?_
           refine ws_condN PolyText_n64 PolyText_n65 rfl rfl rfl rfl (fun hb73 => ?_) (fun hb73 => ?_)
           ·replace hb73 := of_decide_eq_true hb73
            exfalso; omega
           ·replace hb73 := of_decide_eq_false hb73
            refine ws_skip rfl ?_
            refine nm_blk ?_
            refine nm_sub [(0, _), (3, _), (4, _)] ⟨rfl, rfl, rfl, trivial⟩ ?_
            refine nm_thn ?_
            refine ws_region rfl ?_
            refine wlm 0 1 rfl rfl rfl rfl rfl rfl rfl ?_
            refine wlo 1 2 rfl rfl rfl (wo_run rfl rfl (run_add rfl rfl rfl (by first | omega | (simp only [lens]; omega))) ?_)
            refine wla 2 3 rfl rfl rfl rfl rfl rfl rfl ?_
            refine wl_end rfl ?_
            refine nm_lp ?_
            intro ax_ hax_
            refine ⟨_, ?hq21m, ⟨i + 1, (s9 ++ (Lib.decDigits (max ((ga a i).c) (-((ga a i).c))).toNat)), rfl, hax_.sub ⟨rfl, rfl, rfl, trivial⟩, S17.pick [] [] (by decide) trivial, ?hq21f0, ?hq21f1⟩⟩
            case hq21f0 => omega
            case hq21f1 => (rw [polT, ← hs9]; (first | rw [sgT_00 (by omega) (by omega)] | rw [sgT_01 (by omega) (by omega)] | rw [sgT_10 (by omega) (by omega)] | rw [sgT_11 (by omega) (by omega)]); (first | rw [bodyT_0 (by omega)] | rw [bodyT_1 (by omega) (by omega)] | rw [bodyT_2 (by omega) (by omega)]); (first | rw [powT_1 (by omega)] | rw [powT_2 (by omega)] | skip); (try unfold numT); all_goals (first | rfl | (simp only [List.append_assoc, List.append_nil, List.nil_append]; done) | (simp only [List.append_assoc, List.append_nil, List.nil_append]; rfl)))
            case hq21m => omega
      ·replace hg41 := of_decide_eq_false hg41
       exfalso; omega
   ·replace hb13 := of_decide_eq_false hb13
    refine ws_exit rfl rfl ?_
    refine nm_sub [(3, _)] ⟨rfl, trivial⟩ ?_
    refine nm_thn ?_
    refine ws_seqN PolyText_n70 PolyText_n71 rfl rfl rfl ?_
    refine ws_region rfl ?_
    refine wlm 0 1 rfl rfl rfl rfl rfl rfl rfl ?_
    refine wla 1 2 rfl rfl rfl rfl rfl rfl rfl ?_
    refine wl_end rfl ?_
    refine nm_sub [(2, _)] ⟨rfl, trivial⟩ ?_
    refine nm_thn ?_
    refine ws_ret hC [_] rfl rfl ⟨rfl, trivial⟩ ?_
    exact ⟨_, rfl, (S1.pick [] [] (by decide) trivial), (by unfold texT; rw [if_neg (by omega), show a.length = i by omega, ← hs9]; rfl)⟩
end Go.Proofs.YtklcecpjgingpaaDoor
namespace Go.Proofs.YtklcecpjgingpaaDoor
open Go.ChangeShapes Go.WideShapes Go.ChangeAt Go.RowKit
def allD (l : List UInt8) : Prop := ∀ c ∈ l, 48 ≤ c.toNat ∧ c.toNat ≤ 57
def valD (acc : Nat) : List UInt8 → Nat
 | [] => acc
 | c :: r => valD (10 * acc + (c.toNat - 48)) r
theorem valD_app (a b : List UInt8) (n : Nat) : valD n (a ++ b) = valD (valD n a) b := by
 induction a generalizing n with
 | nil => rfl
 | cons c a ih => exact ih _
theorem dig_nat {m : Nat} (h : m < 10) : (UInt8.ofNat (48 + m)).toNat = 48 + m := by
 rw [UInt8.toNat_ofNat']; omega
theorem dec_ind (p : Nat → Prop) (h1 : ∀ m, m < 10 → p m) (h2 : ∀ m, ¬ m < 10 → p (m / 10) → p m) : ∀ m, p m := by
 intro m
 induction m using Nat.strongRecOn with
 | ind m ih =>
  by_cases h : m < 10
  ·exact h1 m h
  ·exact h2 m h (ih (m / 10) (by omega))
theorem dec_dig : ∀ m, allD (Lib.decDigits m) := dec_ind _
 (fun m h c hc => by rw [dec_small h] at hc; obtain rfl := List.mem_singleton.1 hc; rw [dig_nat h]; omega)
 (fun m h ih c hc => by
  rw [dec_big h] at hc
  rcases List.mem_append.1 hc with hc | hc
  ·exact ih c hc
  ·obtain rfl := List.mem_singleton.1 hc; rw [dig_nat (by omega)]; omega)
theorem dec_val : ∀ m, valD 0 (Lib.decDigits m) = m := dec_ind _
 (fun m h => by rw [dec_small h]; show 10 * 0 + ((UInt8.ofNat (48 + m)).toNat - 48) = m; rw [dig_nat h]; omega)
 (fun m h ih => by
  rw [dec_big h, valD_app, ih]
  show 10 * (m / 10) + ((UInt8.ofNat (48 + m % 10)).toNat - 48) = m
  rw [dig_nat (by omega)]; omega)
theorem dec_ne (m : Nat) : Lib.decDigits m ≠ [] := by
 by_cases h : m < 10
 ·rw [dec_small h]; simp
 ·rw [dec_big h]; simp
theorem dec_head (m : Nat) : ∃ c r, Lib.decDigits m = c :: r ∧ 48 ≤ c.toNat ∧ c.toNat ≤ 57 := by
 cases h : Lib.decDigits m with
 | nil => exact absurd h (dec_ne m)
 | cons c r => exact ⟨c, r, rfl, dec_dig m c (by rw [h]; exact List.mem_cons_self ..)⟩
theorem valD_le (l : List UInt8) (n : Nat) : n ≤ valD n l := by
 induction l generalizing n with
 | nil => exact Nat.le_refl _
 | cons c l ih => have := ih (10 * n + (c.toNat - 48)); show n ≤ valD _ l; omega
theorem parse_dig {l : List UInt8} (h : allD l) : ∀ n, valD n l < 1000000000 → Lib.parseUint10 n l = .ok (valD n l) := by
 induction l with
 | nil => intro n _; rfl
 | cons c l ih =>
  intro n hn
  have hc := h c (List.mem_cons_self ..)
  have hl := valD_le l (10 * n + (c.toNat - 48))
  have hn' : valD (10 * n + (c.toNat - 48)) l < 1000000000 := hn
  unfold Lib.parseUint10
  rw [if_pos hc, if_neg (by omega), if_neg (by omega), Nat.mul_comm n 10]
  exact ih (fun x hx => h x (List.mem_cons_of_mem _ hx)) _ hn'
theorem mag_dec {m : Nat} (h : m < 1000000000) : Lib.parseMag (Lib.decDigits m) = .ok m := by
 unfold Lib.parseMag
 rw [if_neg (dec_ne m)]
 have := parse_dig (dec_dig m) 0 (by rw [dec_val]; exact h)
 rw [this, dec_val]
theorem atoi_dec {m : Nat} (h : m < 1000000000) : Lib.atoiAll (Lib.decDigits m) = .ok (m : Int) := by
 obtain ⟨c, r, e, h1, h2⟩ := dec_head m
 have hm := mag_dec h
 rw [e] at hm ⊢
 rw [Lib.atoiAll_plain c r (by omega) (by omega), hm]
 show (if 9223372036854775808 ≤ m then _ else _) = _
 rw [if_neg (by omega)]
theorem atoi_itoa {v : Int} (h : -1000000000 < v ∧ v < 1000000000) : Lib.atoiAll (Lib.itoa v) = .ok v := by
 by_cases hv : v < 0
 ·rw [itoa_neg hv, Lib.atoiAll_minus, mag_dec (by omega)]
  show (if 9223372036854775808 < v.natAbs then _ else Lib.NumEnd.ok (-(v.natAbs : Int))) = _
  rw [if_neg (by omega)]
  congr 1; omega
 ·rw [itoa_pos (by omega), atoi_dec (by omega)]
  congr 1; omega
theorem atoiV_bd (l : List UInt8) : -9223372036854775808 ≤ atoiV l ∧ atoiV l ≤ 9223372036854775807 := by
 unfold atoiV
 cases h : Lib.atoiAll l with
 | ok v => exact Lib.atoiAll_bounds h
 | range => exact Lib.atoiSat_bounds l
 | _ => exact ⟨by show _ ≤ (0 : Int); decide, by show (0 : Int) ≤ _; decide⟩
theorem atoiV_dec {m : Nat} (h : m < 1000000000) : atoiV (Lib.decDigits m) = m := by unfold atoiV; rw [atoi_dec h]
theorem atoiV_itoa {v : Int} (h : -1000000000 < v ∧ v < 1000000000) : atoiV (Lib.itoa v) = v := by unfold atoiV; rw [atoi_itoa h]
theorem idx1_hit {c : UInt8} : ∀ {u : List UInt8} (v : List UInt8), c ∉ u → Lib.index (u ++ c :: v) [c] = u.length
 | [], v, _ => by unfold Lib.index; simp
 | b :: u, v, h => by
  have hb : c ≠ b := fun e => h (by rw [e]; exact List.mem_cons_self ..)
  have ih := idx1_hit (u := u) v (fun hu => h (List.mem_cons_of_mem _ hu))
  show Lib.index (b :: (u ++ c :: v)) [c] = _
  unfold Lib.index
  have hp : [c].isPrefixOf (b :: (u ++ c :: v)) = false := by simp [List.isPrefixOf, hb]
  rw [hp, ih]
  have h2 : ((u.length : Int) == -1) = false := by rw [beq_eq_false_iff_ne]; omega
  rw [h2]
  simp
theorem idx1_miss {c : UInt8} : ∀ {u : List UInt8}, c ∉ u → Lib.index u [c] = -1
 | [], _ => by unfold Lib.index; simp
 | b :: u, h => by
  have hb : c ≠ b := fun e => h (by rw [e]; exact List.mem_cons_self ..)
  have ih := idx1_miss (u := u) (fun hu => h (List.mem_cons_of_mem _ hu))
  unfold Lib.index
  have hp : [c].isPrefixOf (b :: u) = false := by simp [List.isPrefixOf, hb]
  rw [hp, ih]
  simp
theorem cut1_hit {c : UInt8} {u v : List UInt8} (h : c ∉ u) : Lib.cut (u ++ c :: v) [c] = (u, v, true) := by
 unfold Lib.cut
 rw [idx1_hit v h, if_pos (by omega), Int.toNat_natCast, List.take_left]
 have e : (u ++ c :: v).drop (u.length + [c].length) = v := by
  rw [← List.drop_drop, List.drop_left]; rfl
 rw [e]
theorem cut1_miss {c : UInt8} {u : List UInt8} (h : c ∉ u) : Lib.cut u [c] = (u, [], false) := by
 unfold Lib.cut
 rw [idx1_miss h, if_neg (by omega)]
/-- Cut at all spaces. -/
def spw : List UInt8 → List (List UInt8)
 | [] => [[]]
 | c :: l => if c = 32 then [] :: spw l else match spw l with
  | [] => [[c]]
  | w :: ws => (c :: w) :: ws
theorem spw_ne (l : List UInt8) : spw l ≠ [] := by
 cases l with
 | nil => simp [spw]
 | cons c l =>
  unfold spw
  split
  ·simp
  ·split <;> simp
theorem spw_none {l : List UInt8} (h : (32 : UInt8) ∉ l) : spw l = [l] := by
 induction l with
 | nil => rfl
 | cons c l ih =>
  have hc : ¬ c = 32 := fun e => h (by rw [e]; exact List.mem_cons_self ..)
  unfold spw
  rw [if_neg hc, ih (fun hl => h (List.mem_cons_of_mem _ hl))]
theorem spw_at (u v : List UInt8) : spw (u ++ 32 :: v) = spw u ++ spw v := by
 induction u with
 | nil => show spw (32 :: v) = [[]] ++ spw v; rw [spw, if_pos rfl]; rfl
 | cons c u ih =>
  show spw (c :: (u ++ 32 :: v)) = _
  rw [spw, spw]
  by_cases hc : c = 32
  ·rw [if_pos hc, if_pos hc, ih]; rfl
  ·rw [if_neg hc, if_neg hc, ih]
   cases h : spw u with
   | nil => exact absurd h (spw_ne u)
   | cons w ws => rfl
theorem spw_fst {u v : List UInt8} (h : (32 : UInt8) ∉ u) : spw (u ++ 32 :: v) = u :: spw v := by rw [spw_at, spw_none h]; rfl
theorem mem_cut (s : List UInt8) (h : (32 : UInt8) ∈ s) : ∃ u v, s = u ++ 32 :: v ∧ (32 : UInt8) ∉ u := by
 induction s with
 | nil => simp at h
 | cons c s ih =>
  by_cases hc : c = 32
  ·exact ⟨[], s, by rw [hc]; rfl, by simp⟩
  ·rcases List.mem_cons.1 h with e | h
   ·exact absurd e.symm hc
   ·obtain ⟨u, v, e, hu⟩ := ih h
    refine ⟨c :: u, v, by rw [e]; rfl, fun hm => ?_⟩
    rcases List.mem_cons.1 hm with e2 | hm
    ·exact hc e2.symm
    ·exact hu hm
theorem split_spl : ∀ (n : Nat) (s : List UInt8), s.length ≤ n → Lib.splitK [32] 0 (Lib.count s [32]) s = spw s := by
 intro n
 induction n with
 | zero =>
  intro s h
  obtain rfl : s = [] := List.eq_nil_of_length_eq_zero (by omega)
  rfl
 | succ n ih =>
  intro s h
  by_cases hm : (32 : UInt8) ∈ s
  ·obtain ⟨u, v, rfl, hu⟩ := mem_cut s hm
   have hi := idx1_hit v hu
   have e : (u ++ 32 :: v).drop (u.length + [(32 : UInt8)].length) = v := by
    rw [← List.drop_drop, List.drop_left]; rfl
   have hc := Lib.count_hit (sub := [32]) (by simp) hi
   rw [e] at hc
   rw [hc, Nat.add_comm 1, Lib.splitK, hi]
   have h2 : ((u.length : Int) == -1) = false := by rw [beq_eq_false_iff_ne]; omega
   rw [h2, if_neg (by decide), Int.toNat_natCast, Nat.add_zero, List.take_left, e, ih v (by rw [List.length_append, List.length_cons] at h; omega), spw_fst hu]
  ·rw [Lib.count_miss (idx1_miss hm), spw_none hm]; rfl
theorem numT_no {t : Tm} {c : UInt8} (h : c.toNat < 48 ∨ 57 < c.toNat) : c ∉ numT t := fun hm => by
 have := dec_dig _ c hm; omega
theorem itoa_no {v : Int} {c : UInt8} (h : c.toNat < 48 ∨ 57 < c.toNat) (h2 : c ≠ 45) : c ∉ Lib.itoa v := fun hm => by
 by_cases hv : v < 0
 ·rw [itoa_neg hv] at hm
  rcases List.mem_cons.1 hm with e | hm
  ·exact h2 e
  ·have := dec_dig _ c hm; omega
 ·rw [itoa_pos (by omega)] at hm
  have := dec_dig _ c hm; omega
theorem powT_no {e : Int} {c : UInt8} (h : c.toNat < 48 ∨ 57 < c.toNat) (h2 : c ≠ 45) (h3 : c ≠ 116) (h4 : c ≠ 94) : c ∉ powT e := fun hm => by
 unfold powT at hm
 split at hm
 ·exact h3 (List.mem_singleton.1 hm)
 ·rcases List.mem_append.1 hm with hm | hm
  ·simp at hm; rcases hm with hm | hm
   ·exact h3 hm
   ·exact h4 hm
  ·exact itoa_no h h2 hm
theorem bodyT_sp (t : Tm) : (32 : UInt8) ∉ bodyT t := fun hm => by
 unfold bodyT at hm
 split at hm
 ·exact numT_no (by decide) hm
 ·split at hm
  ·exact powT_no (by decide) (by decide) (by decide) (by decide) hm
  ·rcases List.mem_append.1 hm with hm | hm
   ·rcases List.mem_append.1 hm with hm | hm
    ·exact numT_no (by decide) hm
    ·simp at hm
   ·exact powT_no (by decide) (by decide) (by decide) (by decide) hm
def expP (p : List UInt8) : Int := if [116, 94].isPrefixOf p = true then atoiV (p.drop 2) else 1
def termP (w : List UInt8) : Tm := if (Lib.cut w [42]).2.2 = true then ⟨expP (Lib.cut w [42]).2.1, atoiV (Lib.cut w [42]).1⟩ else if [116].isPrefixOf w = true then ⟨expP w, 1⟩ else ⟨0, atoiV w⟩
def rdS (ws : List (List UInt8)) (s0 : Int) : Nat → Int
 | 0 => s0
 | i + 1 => if i % 2 = 1 then (if ga ws i = [45] then -1 else 1) else rdS ws s0 i
def rdO (ws : List (List UInt8)) (s0 : Int) : Nat → List Tm
 | 0 => []
 | i + 1 => if i % 2 = 1 then rdO ws s0 i else rdO ws s0 i ++ [⟨(termP (ga ws i)).e, wr ((termP (ga ws i)).c * rdS ws s0 i)⟩]
theorem expP_pow {e : Int} (h : -1000 ≤ e ∧ e ≤ 1000) : expP (powT e) = e := by
 unfold expP powT
 by_cases h1 : e = 1
 ·rw [if_pos h1, if_neg (by decide), h1]
 ·rw [if_neg h1, if_pos (by simp [List.isPrefixOf])]
  show atoiV (Lib.itoa e) = e
  exact atoiV_itoa (by omega)
theorem powT_pre (e : Int) : [116].isPrefixOf (powT e) = true := by
 unfold powT; split <;> simp [List.isPrefixOf]
theorem termP_body {t : Tm} (he : -1000 ≤ t.e ∧ t.e ≤ 1000) (hc : -1000000 ≤ t.c ∧ t.c ≤ 1000000) : termP (bodyT t) = ⟨t.e, max t.c (-t.c)⟩ := by
 have hn : atoiV (numT t) = max t.c (-t.c) := by unfold numT; rw [atoiV_dec (by omega)]; omega
 by_cases h0 : t.e = 0
 ·rw [bodyT_0 h0]
  unfold termP
  rw [cut1_miss (numT_no (by decide)), if_neg (by simp)]
  have hp : [116].isPrefixOf (numT t) = false := by
   unfold numT
   obtain ⟨c, r, e, h1, h2⟩ := dec_head (max t.c (-t.c)).toNat
   rw [e]
   have : (116 : UInt8) ≠ c := fun e2 => by rw [← e2] at h2; revert h2; decide
   simp [List.isPrefixOf, this]
  rw [hp, if_neg (by decide), hn, h0]
 ·by_cases h1 : max t.c (-t.c) = 1
  ·rw [bodyT_1 h0 h1]
   unfold termP
   rw [cut1_miss (powT_no (by decide) (by decide) (by decide) (by decide)), if_neg (by simp), if_pos (powT_pre _), expP_pow he, h1]
  ·rw [bodyT_2 h0 h1]
   unfold termP
   rw [List.append_assoc, show numT t ++ ([42] ++ powT t.e) = numT t ++ 42 :: powT t.e from rfl, cut1_hit (numT_no (by decide)), if_pos rfl]
   show Tm.mk (expP (powT t.e)) (atoiV (numT t)) = _
   rw [expP_pow he, hn]
def scT (t : Tm) : UInt8 := if t.c < 0 then 45 else 43
def wdA (a : List Tm) : Nat → List (List UInt8)
 | 0 => [bodyT (ga a 0)]
 | i + 1 => wdA a i ++ [[scT (ga a (i + 1))], bodyT (ga a (i + 1))]
def rsA (a : List Tm) : Nat → List UInt8
 | 0 => bodyT (ga a 0)
 | i + 1 => rsA a i ++ 32 :: scT (ga a (i + 1)) :: 32 :: bodyT (ga a (i + 1))
theorem pol_rs (a : List Tm) (i : Nat) : polT a (i + 1) = (if (ga a 0).c < 0 then [45] else []) ++ rsA a i := by
 induction i with
 | zero =>
  show ([] ++ sgT 0 (ga a 0)) ++ bodyT (ga a 0) = _
  unfold sgT
  rw [if_pos rfl]; rfl
 | succ i ih =>
  rw [polT, ih, rsA]
  have : sgT (i + 1) (ga a (i + 1)) = [32, scT (ga a (i + 1)), 32] := by
   unfold sgT scT
   rw [if_neg (by omega)]
   split <;> rfl
  rw [this]
  simp
theorem spw_rs (a : List Tm) (i : Nat) : spw (rsA a i) = wdA a i := by
 induction i with
 | zero => exact spw_none (bodyT_sp _)
 | succ i ih =>
  rw [rsA, spw_at, ih, wdA]
  have hs : (32 : UInt8) ∉ [scT (ga a (i + 1))] := by
   unfold scT; split <;> decide
  have := spw_fst (v := bodyT (ga a (i + 1))) hs
  rw [show [scT (ga a (i + 1))] ++ 32 :: bodyT (ga a (i + 1)) = scT (ga a (i + 1)) :: 32 :: bodyT (ga a (i + 1)) from rfl] at this
  rw [this, spw_none (bodyT_sp _)]
theorem wdA_len (a : List Tm) (i : Nat) : (wdA a i).length = 2 * i + 1 := by
 induction i with
 | zero => rfl
 | succ i ih => rw [wdA, List.length_append, ih]; simp; omega
theorem ga_appL {α : Type} [Inhabited α] (a b : List α) {i : Nat} (h : i < a.length) : ga (a ++ b) i = ga a i := by
 rw [ga_eq (by rw [List.length_append]; omega), ga_eq h, List.getElem_append_left h]
theorem ga_appR {α : Type} [Inhabited α] (a b : List α) (i : Nat) : ga (a ++ b) (a.length + i) = ga b i := by
 unfold ga
 rw [List.getD_eq_getElem?_getD, List.getD_eq_getElem?_getD, List.getElem?_append_right (by omega), Nat.add_sub_cancel_left]
theorem wdA_at (a : List Tm) (n : Nat) : ∀ i, i ≤ n → ga (wdA a n) (2 * i) = bodyT (ga a i) ∧ (1 ≤ i → ga (wdA a n) (2 * i - 1) = [scT (ga a i)]) := by
 induction n with
 | zero =>
  intro i hi
  obtain rfl : i = 0 := by omega
  exact ⟨rfl, fun h => by omega⟩
 | succ n ih =>
  intro i hi
  have hl := wdA_len a n
  rw [wdA]
  by_cases e : i = n + 1
  ·subst e
   constructor
   ·rw [show 2 * (n + 1) = (wdA a n).length + 1 by omega, ga_appR]; rfl
   ·intro _; rw [show 2 * (n + 1) - 1 = (wdA a n).length + 0 by omega, ga_appR]; rfl
  ·obtain ⟨h1, h2⟩ := ih i (by omega)
   refine ⟨by rw [ga_appL _ _ (by omega)]; exact h1, fun h => by rw [ga_appL _ _ (by omega)]; exact h2 h⟩
theorem rd_wd {a : List Tm} {n : Nat} (hn : n < a.length) (hok : ∀ i, i < a.length → okT a i) {s0 : Int} (hs : s0 = if (ga a 0).c < 0 then -1 else 1) : ∀ i, i ≤ n → rdS (wdA a n) s0 (2 * i) = (if (ga a i).c < 0 then -1 else 1) ∧ rdO (wdA a n) s0 (2 * i + 1) = a.take (i + 1) := by
 have one : ∀ i, i ≤ n → rdS (wdA a n) s0 (2 * i) = (if (ga a i).c < 0 then -1 else 1) → rdO (wdA a n) s0 (2 * i) = a.take i → rdO (wdA a n) s0 (2 * i + 1) = a.take (i + 1) := by
  intro i hi h1 h2
  obtain ⟨he, hc, hz, _⟩ := hok i (by omega)
  rw [rdO, if_neg (by omega), h2, (wdA_at a n i hi).1, termP_body he hc, h1, take_ga a i (by omega)]
  refine congrArg (fun z => a.take i ++ [z]) ?_
  show Tm.mk (ga a i).e (wr (max (ga a i).c (-(ga a i).c) * if (ga a i).c < 0 then -1 else 1)) = ga a i
  have e1 : (max (ga a i).c (-(ga a i).c) * if (ga a i).c < 0 then -1 else 1) = (ga a i).c := by split <;> omega
  rw [e1, wr_id (by omega)]
 intro i
 induction i with
 | zero =>
  intro _
  have h1 : rdS (wdA a n) s0 (2 * 0) = (if (ga a 0).c < 0 then -1 else 1) := hs
  exact ⟨h1, one 0 (by omega) h1 rfl⟩
 | succ i ih =>
  intro hi
  obtain ⟨_, h2⟩ := ih (by omega)
  have h1 : rdS (wdA a n) s0 (2 * (i + 1)) = (if (ga a (i + 1)).c < 0 then -1 else 1) := by
   rw [show 2 * (i + 1) = (2 * i + 1) + 1 by omega, rdS, if_pos (by omega), show 2 * i + 1 = 2 * (i + 1) - 1 by omega, (wdA_at a n (i + 1) hi).2 (by omega)]
   unfold scT
   by_cases hc : (ga a (i + 1)).c < 0
   ·rw [if_pos hc, if_pos hc, if_pos rfl]
   ·rw [if_neg hc, if_neg hc, if_neg (by decide)]
  refine ⟨h1, one (i + 1) hi h1 ?_⟩
  rw [show 2 * (i + 1) = (2 * i + 1) + 1 by omega, rdO, if_pos (by omega)]
  exact h2
def sg0 (s : List UInt8) : Int := if [45].isPrefixOf s = true then -1 else 1
def rst (s : List UInt8) : List UInt8 := if [45].isPrefixOf s = true then s.drop 1 else s
def progR (s : List UInt8) : List Tm := rdO (spw (rst s)) (sg0 s) (spw (rst s)).length
theorem bodyT_head (t : Tm) : ∃ c r, bodyT t = c :: r ∧ c ≠ 45 := by
 unfold bodyT
 have hd : ∃ c r, numT t = c :: r ∧ c ≠ 45 := by
  unfold numT
  obtain ⟨c, r, e, h1, h2⟩ := dec_head (max t.c (-t.c)).toNat
  exact ⟨c, r, e, fun e2 => by rw [e2] at h1; revert h1; decide⟩
 split
 ·exact hd
 ·split
  ·unfold powT; split
   ·exact ⟨116, [], rfl, by decide⟩
   ·exact ⟨116, _, rfl, by decide⟩
  ·obtain ⟨c, r, e, h⟩ := hd
   exact ⟨c, r ++ [42] ++ powT t.e, by rw [e]; rfl, h⟩
theorem rsA_head (a : List Tm) (n : Nat) : [45].isPrefixOf (rsA a n) = false := by
 induction n with
 | zero =>
  obtain ⟨c, r, e, h⟩ := bodyT_head (ga a 0)
  show [45].isPrefixOf (bodyT (ga a 0)) = false
  rw [e]
  have : (45 : UInt8) ≠ c := fun e2 => h e2.symm
  simp [List.isPrefixOf, this]
 | succ n ih =>
  rw [rsA]
  cases h : rsA a n with
  | nil => rfl
  | cons c r =>
   rw [h] at ih
   simp [List.isPrefixOf] at ih ⊢
   exact ih
theorem prog_text {a : List Tm} (hm : mayT a = true) (h0 : a ≠ []) : progR (texT a) = a := by
 obtain ⟨_, hok⟩ := mayT_may hm
 obtain ⟨n, hn⟩ : ∃ n, a.length = n + 1 := ⟨a.length - 1, by have := List.length_pos_iff.2 h0; omega⟩
 have ht : texT a = (if (ga a 0).c < 0 then [45] else []) ++ rsA a n := by
  unfold texT; rw [if_neg (by omega), hn, pol_rs]
 have h1 : sg0 (texT a) = (if (ga a 0).c < 0 then -1 else 1) ∧ rst (texT a) = rsA a n := by
  rw [ht]
  unfold sg0 rst
  by_cases hc : (ga a 0).c < 0
  ·rw [if_pos hc, if_pos hc]
   exact ⟨by rw [if_pos (by simp [List.isPrefixOf])], by rw [if_pos (by simp [List.isPrefixOf])]; rfl⟩
  ·rw [if_neg hc, if_neg hc, List.nil_append]
   exact ⟨by rw [if_neg (by rw [rsA_head]; decide)], by rw [if_neg (by rw [rsA_head]; decide)]⟩
 unfold progR
 rw [h1.1, h1.2, spw_rs, wdA_len, (rd_wd (by omega) hok rfl n (Nat.le_refl _)).2, ← hn, List.take_length]
end Go.Proofs.YtklcecpjgingpaaDoor
