/- Part 4 of the proof of the law PolyTexts: the walks through its functions and the plain laws that they need. -/
import Derived.Test.YtakmjhkgilijiaaDoorPtZ3
import Derived.LaidMore
import Derived.LaidHandle
import Derived.Stop.Joined
import Derived.Lib.SmallJoins
import Derived.Deep.Slices
import Derived.Deep.Fields
import Derived.ChangeSame
import Derived.Test.YtakmjhkgilijiaaDoorCards
import Derived.Test.YtakmjhkgilijiaaDoorTie
set_option linter.unusedSimpArgs false
set_option linter.unusedVariables false
namespace Go.Proofs.YtakmjhkgilijiaaDoor
open Go.ChangeShapes Go.WideShapes Go.ChangeAt Go.RowKit
noncomputable def absR_n0 : Code := Tryd.f16.body.getD .skip
noncomputable def absR_n1 : Code := cL absR_n0
noncomputable def absR_n2 : Code := cR absR_n0
noncomputable def absR_n3 : Code := cL absR_n2
noncomputable def absR_n4 : Code := cR absR_n2
noncomputable def absR_n5 : Code := cL absR_n3
noncomputable def absR_n6 : Code := cR absR_n3
noncomputable def absR_n7 : Code := cL absR_n6
noncomputable def absR_n8 : Code := cR absR_n6
noncomputable def absR_n9 : Code := cL absR_n7
noncomputable def absR_n10 : Code := cR absR_n7
noncomputable def absR_n11 : Code := cL absR_n4
noncomputable def absR_n12 : Code := cR absR_n4
set_option maxRecDepth 10000 in
theorem absR_q {w : World} {M : Hp} {X : Fr} (v : Int) (hv : -1000000 ≤ v ∧ v ≤ 1000000) (S : SH w M X []) : Cq Tryd.prog 16 [.int .i64 v] w M X (fun u => u = .int .i64 (max v (-v))) := by
 unfold Cq
 refine calls_in (b := absR_n0) Tryd.func16 rfl Tryd.ntmps16 rfl (fun C hC => ?_)
 refine ws_sub [(0, _)] ⟨rfl, trivial⟩ ?_
 refine ws_seqN absR_n1 absR_n2 rfl rfl rfl ?_
 refine ws_region rfl ?_
 refine wla 0 1 rfl rfl rfl rfl rfl rfl rfl ?_
 refine wl_end rfl ?_
 refine nm_sub [(0, _)] ⟨rfl, trivial⟩ ?_
 refine nm_thn ?_
 refine ws_seqN absR_n3 absR_n4 rfl rfl rfl ?_
 refine ws_seqN absR_n5 absR_n6 rfl rfl rfl ?_
 refine ws_region rfl ?_
 refine wlm 0 1 rfl rfl rfl rfl rfl rfl rfl ?_
 refine wlo 1 2 rfl rfl rfl (wo_run rfl rfl (run_lss rfl rfl rfl) ?_)
 refine wl_end rfl ?_
 refine nm_sub [(0, _), (4, _)] ⟨rfl, rfl, trivial⟩ ?_
 refine nm_thn ?_
 refine ws_condN absR_n7 absR_n8 rfl rfl rfl rfl (fun hb4 => ?_) (fun hb4 => ?_)
 ·replace hb4 := of_decide_eq_true hb4
  refine ws_seqN absR_n9 absR_n10 rfl rfl rfl ?_
  refine ws_region rfl ?_
  refine wlm 0 1 rfl rfl rfl rfl rfl rfl rfl ?_
  refine wlo 1 2 rfl rfl rfl (wo_run rfl rfl (run_neg rfl rfl (by first | omega | (simp only [lens]; omega))) ?_)
  refine wla 2 3 rfl rfl rfl rfl rfl rfl rfl ?_
  refine wl_end rfl ?_
  refine nm_sub [(2, _)] ⟨rfl, trivial⟩ ?_
  refine nm_thn ?_
  refine ws_ret hC [_] rfl rfl ⟨rfl, trivial⟩ ?_
  exact ⟨_, rfl, (S.pick [] [] (by decide) trivial), (congrArg (Value.int .i64) (by omega))⟩
 ·replace hb4 := of_decide_eq_false hb4
  refine ws_skip rfl ?_
  refine nm_sub [(0, _)] ⟨rfl, trivial⟩ ?_
  refine nm_thn ?_
  refine ws_seqN absR_n11 absR_n12 rfl rfl rfl ?_
  refine ws_region rfl ?_
  refine wlm 0 1 rfl rfl rfl rfl rfl rfl rfl ?_
  refine wla 1 2 rfl rfl rfl rfl rfl rfl rfl ?_
  refine wl_end rfl ?_
  refine nm_sub [(2, _)] ⟨rfl, trivial⟩ ?_
  refine nm_thn ?_
  refine ws_ret hC [_] rfl rfl ⟨rfl, trivial⟩ ?_
  exact ⟨_, rfl, (S.pick [] [] (by decide) trivial), (congrArg (Value.int .i64) (by omega))⟩
noncomputable def PolyText_n0 : Code := Tryd.f8.body.getD .skip
noncomputable def PolyText_n1 : Code := cL PolyText_n0
noncomputable def PolyText_n2 : Code := cR PolyText_n0
noncomputable def PolyText_n3 : Code := cL PolyText_n2
noncomputable def PolyText_n4 : Code := cR PolyText_n2
noncomputable def PolyText_n5 : Code := cL PolyText_n3
noncomputable def PolyText_n6 : Code := cR PolyText_n3
noncomputable def PolyText_n7 : Code := cL PolyText_n6
noncomputable def PolyText_n8 : Code := cR PolyText_n6
noncomputable def PolyText_n9 : Code := cL PolyText_n7
noncomputable def PolyText_n10 : Code := cR PolyText_n7
noncomputable def PolyText_n11 : Code := cL PolyText_n4
noncomputable def PolyText_n12 : Code := cR PolyText_n4
noncomputable def PolyText_n13 : Code := cL PolyText_n12
noncomputable def PolyText_n14 : Code := cR PolyText_n12
noncomputable def PolyText_n15 : Code := cL PolyText_n13
noncomputable def PolyText_n16 : Code := cR PolyText_n13
noncomputable def PolyText_n17 : Code := cL PolyText_n16
noncomputable def PolyText_n18 : Code := cL PolyText_n17
noncomputable def PolyText_n19 : Code := cL PolyText_n18
noncomputable def PolyText_n20 : Code := cR PolyText_n18
noncomputable def PolyText_n21 : Code := cL PolyText_n19
noncomputable def PolyText_n22 : Code := cR PolyText_n19
noncomputable def PolyText_n23 : Code := cL PolyText_n22
noncomputable def PolyText_n24 : Code := cR PolyText_n22
noncomputable def PolyText_n25 : Code := cL PolyText_n20
noncomputable def PolyText_n26 : Code := cR PolyText_n20
noncomputable def PolyText_n27 : Code := cL PolyText_n25
noncomputable def PolyText_n28 : Code := cL PolyText_n27
noncomputable def PolyText_n29 : Code := cR PolyText_n27
noncomputable def PolyText_n30 : Code := cL PolyText_n29
noncomputable def PolyText_n31 : Code := cR PolyText_n29
noncomputable def PolyText_n32 : Code := cL PolyText_n30
noncomputable def PolyText_n33 : Code := cR PolyText_n30
noncomputable def PolyText_n34 : Code := cL PolyText_n33
noncomputable def PolyText_n35 : Code := cR PolyText_n33
noncomputable def PolyText_n36 : Code := cL PolyText_n31
noncomputable def PolyText_n37 : Code := cR PolyText_n31
noncomputable def PolyText_n38 : Code := cL PolyText_n36
noncomputable def PolyText_n39 : Code := cR PolyText_n36
noncomputable def PolyText_n40 : Code := cL PolyText_n39
noncomputable def PolyText_n41 : Code := cR PolyText_n39
noncomputable def PolyText_n42 : Code := cL PolyText_n37
noncomputable def PolyText_n43 : Code := cR PolyText_n37
noncomputable def PolyText_n44 : Code := cL PolyText_n42
noncomputable def PolyText_n45 : Code := cR PolyText_n42
noncomputable def PolyText_n46 : Code := cL PolyText_n45
noncomputable def PolyText_n47 : Code := cR PolyText_n45
noncomputable def PolyText_n48 : Code := cL PolyText_n43
noncomputable def PolyText_n49 : Code := cR PolyText_n43
noncomputable def PolyText_n50 : Code := cL PolyText_n49
noncomputable def PolyText_n51 : Code := cR PolyText_n49
noncomputable def PolyText_n52 : Code := cL PolyText_n50
noncomputable def PolyText_n53 : Code := cR PolyText_n50
noncomputable def PolyText_n54 : Code := cL PolyText_n53
noncomputable def PolyText_n55 : Code := cR PolyText_n53
noncomputable def PolyText_n56 : Code := cL PolyText_n51
noncomputable def PolyText_n57 : Code := cR PolyText_n51
noncomputable def PolyText_n58 : Code := cL PolyText_n57
noncomputable def PolyText_n59 : Code := cR PolyText_n57
noncomputable def PolyText_n60 : Code := cL PolyText_n59
noncomputable def PolyText_n61 : Code := cR PolyText_n59
noncomputable def PolyText_n62 : Code := cL PolyText_n61
noncomputable def PolyText_n63 : Code := cR PolyText_n61
noncomputable def PolyText_n64 : Code := cL PolyText_n63
noncomputable def PolyText_n65 : Code := cR PolyText_n63
noncomputable def PolyText_n66 : Code := cL PolyText_n55
noncomputable def PolyText_n67 : Code := cR PolyText_n55
noncomputable def PolyText_n68 : Code := cL PolyText_n67
noncomputable def PolyText_n69 : Code := cR PolyText_n67
noncomputable def PolyText_n70 : Code := cL PolyText_n14
noncomputable def PolyText_n71 : Code := cR PolyText_n14
set_option maxHeartbeats 4000000 in
set_option maxRecDepth 10000 in
theorem PolyText_q {w : World} {M : Hp} {X : Fr} (a : List Tm) {aA : Option Addr} {ac : Nat} (ha : RdA cdTm (M.un X.h) aA ac a) (hok : ∀ i, i < a.length → okT a i) (hal : a.length ≤ 64) (S : SH w M X []) : Cq Tryd.prog 8 [.slice aA a.length ac] w M X (fun u => u = .string (sB (texT a))) := by
 unfold Cq
 have rmha : a.length * 16 ≤ 140737488355328 := ha.room
 refine calls_in (b := PolyText_n0) Tryd.func8 rfl Tryd.ntmps8 rfl (fun C hC => ?_)
 refine ws_sub [(0, _)] ⟨rfl, trivial⟩ ?_
 refine ws_seqN PolyText_n1 PolyText_n2 rfl rfl rfl ?_
 refine ws_region rfl ?_
 refine wla 0 1 rfl rfl rfl rfl rfl rfl rfl ?_
 refine wl_end rfl ?_
 refine nm_sub [(0, _)] ⟨rfl, trivial⟩ ?_
 refine nm_thn ?_
 refine ws_seqN PolyText_n3 PolyText_n4 rfl rfl rfl ?_
 refine ws_seqN PolyText_n5 PolyText_n6 rfl rfl rfl ?_
 refine ws_region rfl ?_
 refine wlm 0 1 rfl rfl rfl rfl rfl rfl rfl ?_
 refine wlo 1 2 rfl rfl rfl (wo_run rfl rfl (run_len rfl rfl rfl rfl rfl rfl Tryd.underlying22) ?_)
 refine wlo 2 3 rfl rfl rfl (wo_run rfl rfl (run_eql rfl rfl rfl) ?_)
 refine wl_end rfl ?_
 refine nm_sub [(0, _), (9, _)] ⟨rfl, rfl, trivial⟩ ?_
 refine nm_thn ?_
 refine ws_condN PolyText_n7 PolyText_n8 rfl rfl rfl rfl (fun hb9 => ?_) (fun hb9 => ?_)
 ·replace hb9 := of_decide_eq_true hb9
  refine ws_seqN PolyText_n9 PolyText_n10 rfl rfl rfl ?_
  refine ws_region rfl ?_
  refine wla 0 1 rfl rfl rfl rfl rfl rfl rfl ?_
  refine wl_end rfl ?_
  refine nm_sub [(2, _)] ⟨rfl, trivial⟩ ?_
  refine nm_thn ?_
  refine ws_ret hC [_] rfl rfl ⟨rfl, trivial⟩ ?_
  exact ⟨_, rfl, (S.pick [] [] (by decide) trivial), (by unfold texT; rw [if_pos (by omega)]; rfl)⟩
 ·replace hb9 := of_decide_eq_false hb9
  refine ws_skip rfl ?_
  refine nm_sub [(0, _)] ⟨rfl, trivial⟩ ?_
  refine nm_thn ?_
  refine ws_seqN PolyText_n11 PolyText_n12 rfl rfl rfl ?_
  refine ws_region rfl ?_
  refine wla 0 1 rfl rfl rfl rfl rfl rfl rfl ?_
  refine wl_end rfl ?_
  refine nm_thn ?_
  refine ws_seqN PolyText_n13 PolyText_n14 rfl rfl rfl ?_
  refine ws_seqN PolyText_n15 PolyText_n16 rfl rfl rfl ?_
  refine ws_region rfl ?_
  refine wla 0 1 rfl rfl rfl rfl rfl rfl rfl ?_
  refine wl_end rfl ?_
  refine nm_thn ?_
  refine ws_blockN PolyText_n17 0 rfl rfl rfl ?_
  refine ws_loopE (fun mx_ ax_ wx_ => ∃ (i : Nat) (s9 : List UInt8), mx_ = a.length - i ∧ Env 81 [(0, .slice aA a.length ac), (3, .string (sB s9)), (4, .int .i64 (i : Int))] ax_ ∧ SH wx_ M X [] ∧ i ≤ a.length ∧ s9 = polT a i) rfl ?_ ?_
  ·intro ax_ hax_
   refine ⟨_, ⟨0, ([] : List UInt8), rfl, hax_.sub ⟨rfl, rfl, rfl, trivial⟩, S.pick [] [] (by decide) trivial, ?hq1f0, ?hq1f1⟩⟩
   case hq1f0 => omega
   case hq1f1 => rfl
  ·rintro m1 a1 w1 ⟨i, s9, rfl, he1, S1, hi, hs9⟩
   clear S
   refine ws_in he1 (c := PolyText_n18) rfl ?_
   clear he1 a1
   refine ws_seqN PolyText_n19 PolyText_n20 rfl rfl rfl ?_
   refine ws_seqN PolyText_n21 PolyText_n22 rfl rfl rfl ?_
   refine ws_region rfl ?_
   refine wlm 0 1 rfl rfl rfl rfl rfl rfl rfl ?_
   refine wlm 1 2 rfl rfl rfl rfl rfl rfl rfl ?_
   refine wlo 2 3 rfl rfl rfl (wo_run rfl rfl (run_len rfl rfl rfl rfl rfl rfl Tryd.underlying22) ?_)
   refine wlo 3 4 rfl rfl rfl (wo_run rfl rfl (run_lss rfl rfl rfl) ?_)
   refine wl_end rfl ?_
   refine nm_sub [(0, _), (3, _), (4, _), (13, _)] ⟨rfl, rfl, rfl, rfl, trivial⟩ ?_
   refine nm_thn ?_
   refine ws_condN PolyText_n23 PolyText_n24 rfl rfl rfl rfl (fun hb13 => ?_) (fun hb13 => ?_)
   ·replace hb13 := of_decide_eq_true hb13
    refine ws_skip rfl ?_
    refine nm_sub [(0, _), (3, _), (4, _)] ⟨rfl, rfl, rfl, trivial⟩ ?_
    refine nm_thn ?_
    refine ws_seqN PolyText_n25 PolyText_n26 rfl rfl rfl ?_
    refine ws_blockN PolyText_n27 1 rfl rfl rfl ?_
    refine ws_seqN PolyText_n28 PolyText_n29 rfl rfl rfl ?_
    refine ws_region rfl ?_
    refine wlm 0 1 rfl rfl rfl rfl rfl rfl rfl ?_
    refine wlm 1 2 rfl rfl rfl rfl rfl rfl rfl ?_
    refine wlo 2 3 rfl rfl rfl (wo_run rfl rfl (run_indexM (C := cdTm) i rfl rfl rfl sl22 (by first | rfl | omega) ha (by first | omega | (simp only [lens]; omega))) ?_)
    refine wlo 3 4 rfl rfl rfl (wo_run rfl rfl (run_loadN (us := [_, _]) rfl rfl Tryd.underlying37 rfl sz37 (ha.cellsAt S1.um (e := i) (by first | omega | (simp only [lens]; omega)) (j := 0) ⟨rfl, rfl, trivial⟩)) ?_)
    refine wlo 4 5 rfl rfl rfl (wo_alloc (l := [_, _]) rfl rfl rfl zr37 rfl S1 ?_)
    intro gb1 w2 S2; clear S1
    refine wlo 5 6 rfl rfl rfl (wo_storeB (i := 0) (us := [_, _]) (l' := [_, _]) (H' := [_]) rfl rfl S2 rfl rfl rfl rfl sz37 rfl rfl rfl rfl ?_)
    intro w3 S3; clear S2
    refine wl_end rfl ?_
    refine nm_sub [(0, _), (3, _), (4, _), (5, _)] ⟨rfl, rfl, rfl, rfl, trivial⟩ ?_
    refine nm_thn ?_
    refine ws_seqN PolyText_n30 PolyText_n31 rfl rfl rfl ?_
    refine ws_seqN PolyText_n32 PolyText_n33 rfl rfl rfl ?_
    obtain ⟨hoe, hoc, hnz, _⟩ := hok i (by omega)
    have hsl := polT_len hok i (by omega)
    rw [← hs9] at hsl
    have hnl := numT_len hoc
    unfold numT at hnl
    have hil := itoa8 (v := (ga a i).e) (by omega)
    refine ws_region rfl ?_
    refine wlo 0 1 rfl rfl rfl (wo_run rfl rfl (run_fieldAddr rfl rfl Tryd.underlying37 rfl (ce3) (nf3)) ?_)
    refine wlo 1 2 rfl rfl rfl (wo_run rfl rfl (run_load1 rfl rfl Tryd.underlying3 rfl (S3.boxc (i := 0) rfl rfl)) ?_)
    refine wlo 2 3 rfl rfl rfl (wo_run rfl rfl (run_lss rfl rfl rfl) ?_)
    refine wlm 3 4 rfl rfl rfl rfl rfl rfl rfl ?_
    refine wl_split (t := 23) rfl (fun hg23 => ?_) (fun hg23 => ?_)
    ·replace hg23 := of_decide_eq_true hg23
     refine wl_opG (k := 4) (k' := 5) rfl rfl ⟨_, _, _, rfl, rfl, rfl, rfl⟩ rfl (wo_run rfl rfl (run_move rfl rfl) ?_)
     refine wl_opG (k := 5) (k' := 6) rfl rfl ⟨_, _, _, rfl, rfl, rfl, rfl⟩ rfl (wo_run rfl rfl (run_eql rfl rfl rfl) ?_)
     refine wlo 6 7 rfl rfl rfl (wo_run rfl rfl (run_pickT rfl rfl rfl) ?_)
     refine wl_end rfl ?_
     refine nm_sub [(0, _), (3, _), (4, _), (5, _), (26, _)] ⟨rfl, rfl, rfl, rfl, rfl, trivial⟩ ?_
     refine nm_thn ?_
     refine ws_condN PolyText_n34 PolyText_n35 rfl rfl rfl rfl (fun hb26 => ?_) (fun hb26 => ?_)
     ·replace hb26 := of_decide_eq_true hb26
      refine ws_region rfl ?_
      refine wlm 0 1 rfl rfl rfl rfl rfl rfl rfl ?_
      refine wlo 1 2 rfl rfl rfl (wo_run rfl rfl (run_addS rfl rfl rfl ((by (try simp only [List.length_append, List.length_cons, List.length_nil]); first | omega | (simp only [lens]; omega)))) ?_)
      refine wla 2 3 rfl rfl rfl rfl rfl rfl rfl ?_
      refine wl_end rfl ?_
      refine nm_sub [(0, _), (3, _), (4, _), (5, _)] ⟨rfl, rfl, rfl, rfl, trivial⟩ ?_
      refine nm_thn ?_
      refine ws_seqN PolyText_n36 PolyText_n37 rfl rfl rfl ?_
      refine ws_seqN PolyText_n38 PolyText_n39 rfl rfl rfl ?_
      refine ws_region rfl ?_
      refine wlo 0 1 rfl rfl rfl (wo_run rfl rfl (run_fieldAddr rfl rfl Tryd.underlying37 rfl (ce3) (nf3)) ?_)
      refine wlo 1 2 rfl rfl rfl (wo_run rfl rfl (run_load1 rfl rfl Tryd.underlying3 rfl (S3.boxc (i := 0) rfl rfl)) ?_)
      refine wlo 2 3 rfl rfl rfl (wo_run rfl rfl (run_lss rfl rfl rfl) ?_)
      refine wlm 3 4 rfl rfl rfl rfl rfl rfl rfl ?_
      refine wl_split (t := 32) rfl (fun hg32 => ?_) (fun hg32 => ?_)
      ·replace hg32 := of_decide_eq_true hg32
       refine wl_opG (k := 4) (k' := 5) rfl rfl ⟨_, _, _, rfl, rfl, rfl, rfl⟩ rfl (wo_run rfl rfl (run_move rfl rfl) ?_)
       refine wl_opG (k := 5) (k' := 6) rfl rfl ⟨_, _, _, rfl, rfl, rfl, rfl⟩ rfl (wo_run rfl rfl (run_gtr rfl rfl rfl) ?_)
       refine wlo 6 7 rfl rfl rfl (wo_run rfl rfl (run_pickT rfl rfl rfl) ?_)
       refine wl_end rfl ?_
       refine nm_sub [(0, _), (3, _), (4, _), (5, _), (35, _)] ⟨rfl, rfl, rfl, rfl, rfl, trivial⟩ ?_
       refine nm_thn ?_
       refine ws_condN PolyText_n40 PolyText_n41 rfl rfl rfl rfl (fun hb35 => ?_) (fun hb35 => ?_)
       ·replace hb35 := of_decide_eq_true hb35
        exfalso; omega
       ·replace hb35 := of_decide_eq_false hb35
        refine ws_skip rfl ?_
        refine nm_sub [(0, _), (3, _), (4, _), (5, _)] ⟨rfl, rfl, rfl, rfl, trivial⟩ ?_
        refine nm_thn ?_
        refine ws_seqN PolyText_n42 PolyText_n43 rfl rfl rfl ?_
        refine ws_seqN PolyText_n44 PolyText_n45 rfl rfl rfl ?_
        refine ws_region rfl ?_
        refine wlo 0 1 rfl rfl rfl (wo_run rfl rfl (run_fieldAddr rfl rfl Tryd.underlying37 rfl (ce3) (nf3)) ?_)
        refine wlo 1 2 rfl rfl rfl (wo_run rfl rfl (run_load1 rfl rfl Tryd.underlying3 rfl (S3.boxc (i := 0) rfl rfl)) ?_)
        refine wlo 2 3 rfl rfl rfl (wo_run rfl rfl (run_gtr rfl rfl rfl) ?_)
        refine wlm 3 4 rfl rfl rfl rfl rfl rfl rfl ?_
        refine wl_split (t := 41) rfl (fun hg41 => ?_) (fun hg41 => ?_)
        ·replace hg41 := of_decide_eq_true hg41
         exfalso; omega
        ·replace hg41 := of_decide_eq_false hg41
         refine wl_no (k := 4) (k' := 5) (d := 42) rfl rfl ⟨_, _, _, rfl, rfl, rfl, rfl⟩ rfl rfl ?_
         refine wl_no (k := 5) (k' := 6) (d := 43) rfl rfl ⟨_, _, _, rfl, rfl, rfl, rfl⟩ rfl rfl ?_
         refine wlo 6 7 rfl rfl rfl (wo_run rfl rfl (run_pickF rfl rfl rfl) ?_)
         refine wl_end rfl ?_
         refine nm_sub [(0, _), (3, _), (4, _), (5, _), (44, _)] ⟨rfl, rfl, rfl, rfl, rfl, trivial⟩ ?_
         refine nm_thn ?_
         refine ws_condFN PolyText_n47 rfl rfl rfl ?_
         refine ws_skip rfl ?_
         refine nm_sub [(0, _), (3, _), (4, _), (5, _)] ⟨rfl, rfl, rfl, rfl, trivial⟩ ?_
         refine nm_thn ?_
         refine ws_seqN PolyText_n48 PolyText_n49 rfl rfl rfl ?_
         refine ws_region rfl ?_
         refine wlo 0 1 rfl rfl rfl (wo_run rfl rfl (run_fieldAddr rfl rfl Tryd.underlying37 rfl (ce3) (nf3)) ?_)
         refine wlo 1 2 rfl rfl rfl (wo_run rfl rfl (run_load1 rfl rfl Tryd.underlying3 rfl (S3.boxc (i := 0) rfl rfl)) ?_)
         refine wlo 2 3 rfl rfl rfl (wo_cq rfl rfl rfl rfl rfl rfl rfl cf16 S3 (absR_q ((ga a i).c) ((by omega)) S3.lend) ?_)
         rintro _ w4 S4 rfl; clear S3
         refine wlo 3 4 rfl rfl rfl (wo_cq rfl rfl rfl rfl rfl rfl rfl cf15 S4 (dec_u (max ((ga a i).c) (-((ga a i).c))) (by omega) S4.lend) ?_)
         rintro _ w5 S5 rfl; clear S4
         refine wla 4 5 rfl rfl rfl rfl rfl rfl rfl ?_
         refine wl_end rfl ?_
         refine nm_sub [(0, _), (3, _), (4, _), (5, _), (6, _)] ⟨rfl, rfl, rfl, rfl, rfl, trivial⟩ ?_
         refine nm_thn ?_
         refine ws_seqN PolyText_n50 PolyText_n51 rfl rfl rfl ?_
         refine ws_seqN PolyText_n52 PolyText_n53 rfl rfl rfl ?_
         refine ws_region rfl ?_
         refine wlo 0 1 rfl rfl rfl (wo_run rfl rfl (run_fieldAddr rfl rfl Tryd.underlying37 rfl (ce3) (nf3)) ?_)
         refine wlo 1 2 rfl rfl rfl (wo_run rfl rfl (run_load1 rfl rfl Tryd.underlying3 rfl (S5.boxc (i := 0) rfl rfl)) ?_)
         refine wlo 2 3 rfl rfl rfl (wo_run rfl rfl (run_neq rfl rfl rfl) ?_)
         refine wlm 3 4 rfl rfl rfl rfl rfl rfl rfl ?_
         refine wl_split (t := 54) rfl (fun hg54 => ?_) (fun hg54 => ?_)
         ·replace hg54 := of_decide_eq_true hg54
          refine wl_opG (k := 4) (k' := 5) rfl rfl ⟨_, _, _, rfl, rfl, rfl, rfl⟩ rfl (wo_run rfl rfl (run_move rfl rfl) ?_)
          refine wl_opG (k := 5) (k' := 6) rfl rfl ⟨_, _, _, rfl, rfl, rfl, rfl⟩ rfl (wo_run rfl rfl (run_eqlD rfl rfl rfl) ?_)
          refine wlo 6 7 rfl rfl rfl (wo_run rfl rfl (run_pickT rfl rfl rfl) ?_)
          refine wl_end rfl ?_
          refine nm_sub [(0, _), (3, _), (4, _), (5, _), (6, _), (57, _)] ⟨rfl, rfl, rfl, rfl, rfl, rfl, trivial⟩ ?_
          refine nm_thn ?_
          refine ws_condN PolyText_n54 PolyText_n55 rfl rfl rfl rfl (fun hb57 => ?_) (fun hb57 => ?_)
          ·replace hb57 := of_decide_eq_true hb57
           have hone : max (ga a i).c (-(ga a i).c) = 1 := by have := dec_one.1 hb57; omega
           refine ws_region rfl ?_
           refine wla 0 1 rfl rfl rfl rfl rfl rfl rfl ?_
           refine wl_end rfl ?_
           refine nm_sub [(0, _), (3, _), (4, _), (5, _), (6, _)] ⟨rfl, rfl, rfl, rfl, rfl, trivial⟩ ?_
           refine nm_thn ?_
           refine ws_seqN PolyText_n56 PolyText_n57 rfl rfl rfl ?_
           refine ws_region rfl ?_
           refine wlm 0 1 rfl rfl rfl rfl rfl rfl rfl ?_
           refine wlm 1 2 rfl rfl rfl rfl rfl rfl rfl ?_
           refine wlo 2 3 rfl rfl rfl (wo_run rfl rfl (run_addS rfl rfl rfl ((by (try simp only [List.length_append, List.length_cons, List.length_nil]); first | omega | (simp only [lens]; omega)))) ?_)
           refine wla 3 4 rfl rfl rfl rfl rfl rfl rfl ?_
           refine wl_end rfl ?_
           refine nm_sub [(0, _), (3, _), (4, _), (5, _)] ⟨rfl, rfl, rfl, rfl, trivial⟩ ?_
           refine nm_thn ?_
           refine ws_seqN PolyText_n58 PolyText_n59 rfl rfl rfl ?_
           refine ws_region rfl ?_
           refine wlo 0 1 rfl rfl rfl (wo_run rfl rfl (run_fieldAddr rfl rfl Tryd.underlying37 rfl (ce3) (nf3)) ?_)
           refine wlo 1 2 rfl rfl rfl (wo_run rfl rfl (run_load1 rfl rfl Tryd.underlying3 rfl (S5.boxc (i := 0) rfl rfl)) ?_)
           refine wlo 2 3 rfl rfl rfl (wo_run rfl rfl (run_eql rfl rfl rfl) ?_)
           refine wl_end rfl ?_
           refine nm_sub [(0, _), (3, _), (4, _), (5, _), (68, _)] ⟨rfl, rfl, rfl, rfl, rfl, trivial⟩ ?_
           refine nm_thn ?_
           refine ws_condN PolyText_n60 PolyText_n61 rfl rfl rfl rfl (fun hb68 => ?_) (fun hb68 => ?_)
           ·replace hb68 := of_decide_eq_true hb68
            refine ws_region rfl ?_
            refine wlm 0 1 rfl rfl rfl rfl rfl rfl rfl ?_
            refine wlo 1 2 rfl rfl rfl (wo_run rfl rfl (run_addS rfl rfl rfl ((by (try simp only [List.length_append, List.length_cons, List.length_nil]); first | omega | (simp only [lens]; omega)))) ?_)
            refine wla 2 3 rfl rfl rfl rfl rfl rfl rfl ?_
            refine wl_end rfl ?_
            refine nm_blk ?_
            refine nm_sub [(0, _), (3, _), (4, _)] ⟨rfl, rfl, rfl, trivial⟩ ?_
            refine nm_thn ?_
            refine ws_region rfl ?_
            refine wlm 0 1 rfl rfl rfl rfl rfl rfl rfl ?_
            refine wlo 1 2 rfl rfl rfl (wo_run rfl rfl (run_add rfl rfl rfl (by first | omega | (simp only [lens]; omega))) ?_)
            refine wla 2 3 rfl rfl rfl rfl rfl rfl rfl ?_
            refine wl_end rfl ?_
            refine nm_lp ?_
            intro ax_ hax_
            refine ⟨_, ?hq2m, ⟨i + 1, (((s9 ++ ([45] : List UInt8)) ++ ([] : List UInt8)) ++ ([116] : List UInt8)), rfl, hax_.sub ⟨rfl, rfl, rfl, trivial⟩, S5.pick [] [] (by decide) trivial, ?hq2f0, ?hq2f1⟩⟩
            case hq2f0 => omega
            case hq2f1 => (rw [polT, ← hs9]; (first | rw [sgT_00 (by omega) (by omega)] | rw [sgT_01 (by omega) (by omega)] | rw [sgT_10 (by omega) (by omega)] | rw [sgT_11 (by omega) (by omega)]); (first | rw [bodyT_0 (by omega)] | rw [bodyT_1 (by omega) (by omega)] | rw [bodyT_2 (by omega) (by omega)]); (first | rw [powT_1 (by omega)] | rw [powT_2 (by omega)] | skip); (try unfold numT); all_goals (first | rfl | (simp only [List.append_assoc, List.append_nil, List.nil_append]; done) | (simp only [List.append_assoc, List.append_nil, List.nil_append]; rfl)))
            case hq2m => omega
           ·replace hb68 := of_decide_eq_false hb68
            refine ws_seqN PolyText_n62 PolyText_n63 rfl rfl rfl ?_
            refine ws_region rfl ?_
            refine wlo 0 1 rfl rfl rfl (wo_run rfl rfl (run_fieldAddr rfl rfl Tryd.underlying37 rfl (ce3) (nf3)) ?_)
            refine wlo 1 2 rfl rfl rfl (wo_run rfl rfl (run_load1 rfl rfl Tryd.underlying3 rfl (S5.boxc (i := 0) rfl rfl)) ?_)
            refine wlo 2 3 rfl rfl rfl (wo_run rfl rfl (run_neq rfl rfl rfl) ?_)
            refine wl_end rfl ?_
            refine nm_sub [(0, _), (3, _), (4, _), (5, _), (73, _)] ⟨rfl, rfl, rfl, rfl, rfl, trivial⟩ ?_
            refine nm_thn ?_
            refine ws_condN PolyText_n64 PolyText_n65 rfl rfl rfl rfl (fun hb73 => ?_) (fun hb73 => ?_)
            ·replace hb73 := of_decide_eq_true hb73
             refine ws_region rfl ?_
             refine wlm 0 1 rfl rfl rfl rfl rfl rfl rfl ?_
             refine wlo 1 2 rfl rfl rfl (wo_run rfl rfl (run_addS rfl rfl rfl ((by (try simp only [List.length_append, List.length_cons, List.length_nil]); first | omega | (simp only [lens]; omega)))) ?_)
             refine wlo 2 3 rfl rfl rfl (wo_run rfl rfl (run_fieldAddr rfl rfl Tryd.underlying37 rfl (ce3) (nf3)) ?_)
             refine wlo 3 4 rfl rfl rfl (wo_run rfl rfl (run_load1 rfl rfl Tryd.underlying3 rfl (S5.boxc (i := 0) rfl rfl)) ?_)
             refine wlo 4 5 rfl rfl rfl (wo_cq rfl rfl rfl rfl rfl rfl rfl cf15 S5 (dec_z ((ga a i).e) (by omega) S5.lend) ?_)
             rintro _ w6 S6 rfl; clear S5
             refine wlo 5 6 rfl rfl rfl (wo_run rfl rfl (run_addS rfl rfl rfl ((by (try simp only [List.length_append, List.length_cons, List.length_nil]); first | omega | (simp only [lens]; omega)))) ?_)
             refine wla 6 7 rfl rfl rfl rfl rfl rfl rfl ?_
             refine wl_end rfl ?_
             refine nm_blk ?_
             refine nm_sub [(0, _), (3, _), (4, _)] ⟨rfl, rfl, rfl, trivial⟩ ?_
             refine nm_thn ?_
             refine ws_region rfl ?_
             refine wlm 0 1 rfl rfl rfl rfl rfl rfl rfl ?_
             refine wlo 1 2 rfl rfl rfl (wo_run rfl rfl (run_add rfl rfl rfl (by first | omega | (simp only [lens]; omega))) ?_)
             refine wla 2 3 rfl rfl rfl rfl rfl rfl rfl ?_
             refine wl_end rfl ?_
             refine nm_lp ?_
             intro ax_ hax_
             refine ⟨_, ?hq3m, ⟨i + 1, ((((s9 ++ ([45] : List UInt8)) ++ ([] : List UInt8)) ++ ([116, 94] : List UInt8)) ++ (Lib.itoa ((ga a i).e))), rfl, hax_.sub ⟨rfl, rfl, rfl, trivial⟩, S6.pick [] [] (by decide) trivial, ?hq3f0, ?hq3f1⟩⟩
             case hq3f0 => omega
             case hq3f1 => (rw [polT, ← hs9]; (first | rw [sgT_00 (by omega) (by omega)] | rw [sgT_01 (by omega) (by omega)] | rw [sgT_10 (by omega) (by omega)] | rw [sgT_11 (by omega) (by omega)]); (first | rw [bodyT_0 (by omega)] | rw [bodyT_1 (by omega) (by omega)] | rw [bodyT_2 (by omega) (by omega)]); (first | rw [powT_1 (by omega)] | rw [powT_2 (by omega)] | skip); (try unfold numT); all_goals (first | rfl | (simp only [List.append_assoc, List.append_nil, List.nil_append]; done) | (simp only [List.append_assoc, List.append_nil, List.nil_append]; rfl)))
             case hq3m => omega
            ·replace hb73 := of_decide_eq_false hb73
             exfalso; omega
          ·replace hb57 := of_decide_eq_false hb57
           have hone : ¬ max (ga a i).c (-(ga a i).c) = 1 := fun h => hb57 (dec_one.2 (by omega))
           refine ws_seqN PolyText_n66 PolyText_n67 rfl rfl rfl ?_
           refine ws_region rfl ?_
           refine wlo 0 1 rfl rfl rfl (wo_run rfl rfl (run_fieldAddr rfl rfl Tryd.underlying37 rfl (ce3) (nf3)) ?_)
           refine wlo 1 2 rfl rfl rfl (wo_run rfl rfl (run_load1 rfl rfl Tryd.underlying3 rfl (S5.boxc (i := 0) rfl rfl)) ?_)
           refine wlo 2 3 rfl rfl rfl (wo_run rfl rfl (run_neq rfl rfl rfl) ?_)
           refine wl_end rfl ?_
           refine nm_sub [(0, _), (3, _), (4, _), (5, _), (6, _), (60, _)] ⟨rfl, rfl, rfl, rfl, rfl, rfl, trivial⟩ ?_
           refine nm_thn ?_
           refine ws_condN PolyText_n68 PolyText_n69 rfl rfl rfl rfl (fun hb60 => ?_) (fun hb60 => ?_)
           ·replace hb60 := of_decide_eq_true hb60
            refine ws_region rfl ?_
            refine wlm 0 1 rfl rfl rfl rfl rfl rfl rfl ?_
            refine wlo 1 2 rfl rfl rfl (wo_run rfl rfl (run_addS rfl rfl rfl ((by (try simp only [List.length_append, List.length_cons, List.length_nil]); first | omega | (simp only [lens]; omega)))) ?_)
            refine wla 2 3 rfl rfl rfl rfl rfl rfl rfl ?_
            refine wl_end rfl ?_
            refine nm_sub [(0, _), (3, _), (4, _), (5, _), (6, _)] ⟨rfl, rfl, rfl, rfl, rfl, trivial⟩ ?_
            refine nm_thn ?_
            refine ws_seqN PolyText_n56 PolyText_n57 rfl rfl rfl ?_
            refine ws_region rfl ?_
            refine wlm 0 1 rfl rfl rfl rfl rfl rfl rfl ?_
            refine wlm 1 2 rfl rfl rfl rfl rfl rfl rfl ?_
            refine wlo 2 3 rfl rfl rfl (wo_run rfl rfl (run_addS rfl rfl rfl ((by (try simp only [List.length_append, List.length_cons, List.length_nil]); first | omega | (simp only [lens]; omega)))) ?_)
            refine wla 3 4 rfl rfl rfl rfl rfl rfl rfl ?_
            refine wl_end rfl ?_
            refine nm_sub [(0, _), (3, _), (4, _), (5, _)] ⟨rfl, rfl, rfl, rfl, trivial⟩ ?_
            refine nm_thn ?_
            refine ws_seqN PolyText_n58 PolyText_n59 rfl rfl rfl ?_
            refine ws_region rfl ?_
            refine wlo 0 1 rfl rfl rfl (wo_run rfl rfl (run_fieldAddr rfl rfl Tryd.underlying37 rfl (ce3) (nf3)) ?_)
            refine wlo 1 2 rfl rfl rfl (wo_run rfl rfl (run_load1 rfl rfl Tryd.underlying3 rfl (S5.boxc (i := 0) rfl rfl)) ?_)
            refine wlo 2 3 rfl rfl rfl (wo_run rfl rfl (run_eql rfl rfl rfl) ?_)
            refine wl_end rfl ?_
            refine nm_sub [(0, _), (3, _), (4, _), (5, _), (68, _)] ⟨rfl, rfl, rfl, rfl, rfl, trivial⟩ ?_
            refine nm_thn ?_
            refine ws_condN PolyText_n60 PolyText_n61 rfl rfl rfl rfl (fun hb68 => ?_) (fun hb68 => ?_)
            ·replace hb68 := of_decide_eq_true hb68
             refine ws_region rfl ?_
             refine wlm 0 1 rfl rfl rfl rfl rfl rfl rfl ?_
             refine wlo 1 2 rfl rfl rfl (wo_run rfl rfl (run_addS rfl rfl rfl ((by (try simp only [List.length_append, List.length_cons, List.length_nil]); first | omega | (simp only [lens]; omega)))) ?_)
             refine wla 2 3 rfl rfl rfl rfl rfl rfl rfl ?_
             refine wl_end rfl ?_
             refine nm_blk ?_
             refine nm_sub [(0, _), (3, _), (4, _)] ⟨rfl, rfl, rfl, trivial⟩ ?_
             refine nm_thn ?_
             refine ws_region rfl ?_
             refine wlm 0 1 rfl rfl rfl rfl rfl rfl rfl ?_
             refine wlo 1 2 rfl rfl rfl (wo_run rfl rfl (run_add rfl rfl rfl (by first | omega | (simp only [lens]; omega))) ?_)
             refine wla 2 3 rfl rfl rfl rfl rfl rfl rfl ?_
             refine wl_end rfl ?_
             refine nm_lp ?_
             intro ax_ hax_
             refine ⟨_, ?hq4m, ⟨i + 1, (((s9 ++ ([45] : List UInt8)) ++ ((Lib.decDigits (max ((ga a i).c) (-((ga a i).c))).toNat) ++ ([42] : List UInt8))) ++ ([116] : List UInt8)), rfl, hax_.sub ⟨rfl, rfl, rfl, trivial⟩, S5.pick [] [] (by decide) trivial, ?hq4f0, ?hq4f1⟩⟩
             case hq4f0 => omega
             case hq4f1 => (rw [polT, ← hs9]; (first | rw [sgT_00 (by omega) (by omega)] | rw [sgT_01 (by omega) (by omega)] | rw [sgT_10 (by omega) (by omega)] | rw [sgT_11 (by omega) (by omega)]); (first | rw [bodyT_0 (by omega)] | rw [bodyT_1 (by omega) (by omega)] | rw [bodyT_2 (by omega) (by omega)]); (first | rw [powT_1 (by omega)] | rw [powT_2 (by omega)] | skip); (try unfold numT); all_goals (first | rfl | (simp only [List.append_assoc, List.append_nil, List.nil_append]; done) | (simp only [List.append_assoc, List.append_nil, List.nil_append]; rfl)))
             case hq4m => omega
            ·replace hb68 := of_decide_eq_false hb68
             refine ws_seqN PolyText_n62 PolyText_n63 rfl rfl rfl ?_
             refine ws_region rfl ?_
             refine wlo 0 1 rfl rfl rfl (wo_run rfl rfl (run_fieldAddr rfl rfl Tryd.underlying37 rfl (ce3) (nf3)) ?_)
             refine wlo 1 2 rfl rfl rfl (wo_run rfl rfl (run_load1 rfl rfl Tryd.underlying3 rfl (S5.boxc (i := 0) rfl rfl)) ?_)
             refine wlo 2 3 rfl rfl rfl (wo_run rfl rfl (run_neq rfl rfl rfl) ?_)
             refine wl_end rfl ?_
             refine nm_sub [(0, _), (3, _), (4, _), (5, _), (73, _)] ⟨rfl, rfl, rfl, rfl, rfl, trivial⟩ ?_
             refine nm_thn ?_
             refine ws_condN PolyText_n64 PolyText_n65 rfl rfl rfl rfl (fun hb73 => ?_) (fun hb73 => ?_)
             ·replace hb73 := of_decide_eq_true hb73
              refine ws_region rfl ?_
              refine wlm 0 1 rfl rfl rfl rfl rfl rfl rfl ?_
              refine wlo 1 2 rfl rfl rfl (wo_run rfl rfl (run_addS rfl rfl rfl ((by (try simp only [List.length_append, List.length_cons, List.length_nil]); first | omega | (simp only [lens]; omega)))) ?_)
              refine wlo 2 3 rfl rfl rfl (wo_run rfl rfl (run_fieldAddr rfl rfl Tryd.underlying37 rfl (ce3) (nf3)) ?_)
              refine wlo 3 4 rfl rfl rfl (wo_run rfl rfl (run_load1 rfl rfl Tryd.underlying3 rfl (S5.boxc (i := 0) rfl rfl)) ?_)
              refine wlo 4 5 rfl rfl rfl (wo_cq rfl rfl rfl rfl rfl rfl rfl cf15 S5 (dec_z ((ga a i).e) (by omega) S5.lend) ?_)
              rintro _ w7 S7 rfl; clear S5
              refine wlo 5 6 rfl rfl rfl (wo_run rfl rfl (run_addS rfl rfl rfl ((by (try simp only [List.length_append, List.length_cons, List.length_nil]); first | omega | (simp only [lens]; omega)))) ?_)
              refine wla 6 7 rfl rfl rfl rfl rfl rfl rfl ?_
              refine wl_end rfl ?_
              refine nm_blk ?_
              refine nm_sub [(0, _), (3, _), (4, _)] ⟨rfl, rfl, rfl, trivial⟩ ?_
              refine nm_thn ?_
              refine ws_region rfl ?_
              refine wlm 0 1 rfl rfl rfl rfl rfl rfl rfl ?_
              refine wlo 1 2 rfl rfl rfl (wo_run rfl rfl (run_add rfl rfl rfl (by first | omega | (simp only [lens]; omega))) ?_)
              refine wla 2 3 rfl rfl rfl rfl rfl rfl rfl ?_
              refine wl_end rfl ?_
              refine nm_lp ?_
              intro ax_ hax_
              refine ⟨_, ?hq5m, ⟨i + 1, ((((s9 ++ ([45] : List UInt8)) ++ ((Lib.decDigits (max ((ga a i).c) (-((ga a i).c))).toNat) ++ ([42] : List UInt8))) ++ ([116, 94] : List UInt8)) ++ (Lib.itoa ((ga a i).e))), rfl, hax_.sub ⟨rfl, rfl, rfl, trivial⟩, S7.pick [] [] (by decide) trivial, ?hq5f0, ?hq5f1⟩⟩
              case hq5f0 => omega
              case hq5f1 => (rw [polT, ← hs9]; (first | rw [sgT_00 (by omega) (by omega)] | rw [sgT_01 (by omega) (by omega)] | rw [sgT_10 (by omega) (by omega)] | rw [sgT_11 (by omega) (by omega)]); (first | rw [bodyT_0 (by omega)] | rw [bodyT_1 (by omega) (by omega)] | rw [bodyT_2 (by omega) (by omega)]); (first | rw [powT_1 (by omega)] | rw [powT_2 (by omega)] | skip); (try unfold numT); all_goals (first | rfl | (simp only [List.append_assoc, List.append_nil, List.nil_append]; done) | (simp only [List.append_assoc, List.append_nil, List.nil_append]; rfl)))
              case hq5m => omega
             ·replace hb73 := of_decide_eq_false hb73
              exfalso; omega
           ·replace hb60 := of_decide_eq_false hb60
            exfalso; omega
         ·replace hg54 := of_decide_eq_false hg54
          refine wl_no (k := 4) (k' := 5) (d := 55) rfl rfl ⟨_, _, _, rfl, rfl, rfl, rfl⟩ rfl rfl ?_
          refine wl_no (k := 5) (k' := 6) (d := 56) rfl rfl ⟨_, _, _, rfl, rfl, rfl, rfl⟩ rfl rfl ?_
          refine wlo 6 7 rfl rfl rfl (wo_run rfl rfl (run_pickF rfl rfl rfl) ?_)
          refine wl_end rfl ?_
          refine nm_sub [(0, _), (3, _), (4, _), (5, _), (6, _), (57, _)] ⟨rfl, rfl, rfl, rfl, rfl, rfl, trivial⟩ ?_
          refine nm_thn ?_
          refine ws_condFN PolyText_n55 rfl rfl rfl ?_
          refine ws_seqN PolyText_n66 PolyText_n67 rfl rfl rfl ?_
          refine ws_region rfl ?_
          refine wlo 0 1 rfl rfl rfl (wo_run rfl rfl (run_fieldAddr rfl rfl Tryd.underlying37 rfl (ce3) (nf3)) ?_)
          refine wlo 1 2 rfl rfl rfl (wo_run rfl rfl (run_load1 rfl rfl Tryd.underlying3 rfl (S5.boxc (i := 0) rfl rfl)) ?_)
          refine wlo 2 3 rfl rfl rfl (wo_run rfl rfl (run_neq rfl rfl rfl) ?_)
          refine wl_end rfl ?_
          refine nm_sub [(0, _), (3, _), (4, _), (5, _), (6, _), (60, _)] ⟨rfl, rfl, rfl, rfl, rfl, rfl, trivial⟩ ?_
          refine nm_thn ?_
          refine ws_condN PolyText_n68 PolyText_n69 rfl rfl rfl rfl (fun hb60 => ?_) (fun hb60 => ?_)
          ·replace hb60 := of_decide_eq_true hb60
           exfalso; omega
          ·replace hb60 := of_decide_eq_false hb60
           refine ws_skip rfl ?_
           refine nm_sub [(0, _), (3, _), (4, _), (5, _), (6, _)] ⟨rfl, rfl, rfl, rfl, rfl, trivial⟩ ?_
           refine nm_thn ?_
           refine ws_seqN PolyText_n56 PolyText_n57 rfl rfl rfl ?_
           refine ws_region rfl ?_
           refine wlm 0 1 rfl rfl rfl rfl rfl rfl rfl ?_
           refine wlm 1 2 rfl rfl rfl rfl rfl rfl rfl ?_
           refine wlo 2 3 rfl rfl rfl (wo_run rfl rfl (run_addS rfl rfl rfl ((by (try simp only [List.length_append, List.length_cons, List.length_nil]); first | omega | (simp only [lens]; omega)))) ?_)
           refine wla 3 4 rfl rfl rfl rfl rfl rfl rfl ?_
           refine wl_end rfl ?_
           refine nm_sub [(0, _), (3, _), (4, _), (5, _)] ⟨rfl, rfl, rfl, rfl, trivial⟩ ?_
           refine nm_thn ?_
           refine ws_seqN PolyText_n58 PolyText_n59 rfl rfl rfl ?_
           refine ws_region rfl ?_
           refine wlo 0 1 rfl rfl rfl (wo_run rfl rfl (run_fieldAddr rfl rfl Tryd.underlying37 rfl (ce3) (nf3)) ?_)
           refine wlo 1 2 rfl rfl rfl (wo_run rfl rfl (run_load1 rfl rfl Tryd.underlying3 rfl (S5.boxc (i := 0) rfl rfl)) ?_)
           refine wlo 2 3 rfl rfl rfl (wo_run rfl rfl (run_eql rfl rfl rfl) ?_)
           refine wl_end rfl ?_
           refine nm_sub [(0, _), (3, _), (4, _), (5, _), (68, _)] ⟨rfl, rfl, rfl, rfl, rfl, trivial⟩ ?_
           refine nm_thn ?_
           refine ws_condN PolyText_n60 PolyText_n61 rfl rfl rfl rfl (fun hb68 => ?_) (fun hb68 => ?_)
           ·replace hb68 := of_decide_eq_true hb68
            exfalso; omega
           ·replace hb68 := of_decide_eq_false hb68
            refine ws_seqN PolyText_n62 PolyText_n63 rfl rfl rfl ?_
            refine ws_region rfl ?_
            refine wlo 0 1 rfl rfl rfl (wo_run rfl rfl (run_fieldAddr rfl rfl Tryd.underlying37 rfl (ce3) (nf3)) ?_)
            refine wlo 1 2 rfl rfl rfl (wo_run rfl rfl (run_load1 rfl rfl Tryd.underlying3 rfl (S5.boxc (i := 0) rfl rfl)) ?_)
            refine wlo 2 3 rfl rfl rfl (wo_run rfl rfl (run_neq rfl rfl rfl) ?_)
            refine wl_end rfl ?_
            refine nm_sub [(0, _), (3, _), (4, _), (5, _), (73, _)] ⟨rfl, rfl, rfl, rfl, rfl, trivial⟩ ?_
            refine nm_thn ?_
            refine ws_condN PolyText_n64 PolyText_n65 rfl rfl rfl rfl (fun hb73 => ?_) (fun hb73 => ?_)
            ·replace hb73 := of_decide_eq_true hb73
             exfalso; omega
            ·replace hb73 := of_decide_eq_false hb73
             refine ws_skip rfl ?_
             refine nm_blk ?_
             refine nm_sub [(0, _), (3, _), (4, _)] ⟨rfl, rfl, rfl, trivial⟩ ?_
             refine nm_thn ?_
             refine ws_region rfl ?_
             refine wlm 0 1 rfl rfl rfl rfl rfl rfl rfl ?_
             refine wlo 1 2 rfl rfl rfl (wo_run rfl rfl (run_add rfl rfl rfl (by first | omega | (simp only [lens]; omega))) ?_)
             refine wla 2 3 rfl rfl rfl rfl rfl rfl rfl ?_
             refine wl_end rfl ?_
             refine nm_lp ?_
             intro ax_ hax_
             refine ⟨_, ?hq6m, ⟨i + 1, ((s9 ++ ([45] : List UInt8)) ++ (Lib.decDigits (max ((ga a i).c) (-((ga a i).c))).toNat)), rfl, hax_.sub ⟨rfl, rfl, rfl, trivial⟩, S5.pick [] [] (by decide) trivial, ?hq6f0, ?hq6f1⟩⟩
             case hq6f0 => omega
             case hq6f1 => (rw [polT, ← hs9]; (first | rw [sgT_00 (by omega) (by omega)] | rw [sgT_01 (by omega) (by omega)] | rw [sgT_10 (by omega) (by omega)] | rw [sgT_11 (by omega) (by omega)]); (first | rw [bodyT_0 (by omega)] | rw [bodyT_1 (by omega) (by omega)] | rw [bodyT_2 (by omega) (by omega)]); (first | rw [powT_1 (by omega)] | rw [powT_2 (by omega)] | skip); (try unfold numT); all_goals (first | rfl | (simp only [List.append_assoc, List.append_nil, List.nil_append]; done) | (simp only [List.append_assoc, List.append_nil, List.nil_append]; rfl)))
             case hq6m => omega
      ·replace hg32 := of_decide_eq_false hg32
       exfalso; omega
     ·replace hb26 := of_decide_eq_false hb26
      refine ws_skip rfl ?_
      refine nm_sub [(0, _), (3, _), (4, _), (5, _)] ⟨rfl, rfl, rfl, rfl, trivial⟩ ?_
      refine nm_thn ?_
      refine ws_seqN PolyText_n36 PolyText_n37 rfl rfl rfl ?_
      refine ws_seqN PolyText_n38 PolyText_n39 rfl rfl rfl ?_
      refine ws_region rfl ?_
      refine wlo 0 1 rfl rfl rfl (wo_run rfl rfl (run_fieldAddr rfl rfl Tryd.underlying37 rfl (ce3) (nf3)) ?_)
      refine wlo 1 2 rfl rfl rfl (wo_run rfl rfl (run_load1 rfl rfl Tryd.underlying3 rfl (S3.boxc (i := 0) rfl rfl)) ?_)
      refine wlo 2 3 rfl rfl rfl (wo_run rfl rfl (run_lss rfl rfl rfl) ?_)
      refine wlm 3 4 rfl rfl rfl rfl rfl rfl rfl ?_
      refine wl_split (t := 32) rfl (fun hg32 => ?_) (fun hg32 => ?_)
      ·replace hg32 := of_decide_eq_true hg32
       refine wl_opG (k := 4) (k' := 5) rfl rfl ⟨_, _, _, rfl, rfl, rfl, rfl⟩ rfl (wo_run rfl rfl (run_move rfl rfl) ?_)
       refine wl_opG (k := 5) (k' := 6) rfl rfl ⟨_, _, _, rfl, rfl, rfl, rfl⟩ rfl (wo_run rfl rfl (run_gtr rfl rfl rfl) ?_)
       refine wlo 6 7 rfl rfl rfl (wo_run rfl rfl (run_pickT rfl rfl rfl) ?_)
       refine wl_end rfl ?_
       refine nm_sub [(0, _), (3, _), (4, _), (5, _), (35, _)] ⟨rfl, rfl, rfl, rfl, rfl, trivial⟩ ?_
       refine nm_thn ?_
       refine ws_condN PolyText_n40 PolyText_n41 rfl rfl rfl rfl (fun hb35 => ?_) (fun hb35 => ?_)
       ·replace hb35 := of_decide_eq_true hb35
        refine ws_region rfl ?_
        refine wlm 0 1 rfl rfl rfl rfl rfl rfl rfl ?_
        refine wlo 1 2 rfl rfl rfl (wo_run rfl rfl (run_addS rfl rfl rfl ((by (try simp only [List.length_append, List.length_cons, List.length_nil]); first | omega | (simp only [lens]; omega)))) ?_)
        refine wla 2 3 rfl rfl rfl rfl rfl rfl rfl ?_
        refine wl_end rfl ?_
        refine nm_sub [(0, _), (3, _), (4, _), (5, _)] ⟨rfl, rfl, rfl, rfl, trivial⟩ ?_
        refine nm_thn ?_
        refine ws_seqN PolyText_n42 PolyText_n43 rfl rfl rfl ?_
        refine ws_seqN PolyText_n44 PolyText_n45 rfl rfl rfl ?_
        refine ws_region rfl ?_
        refine wlo 0 1 rfl rfl rfl (wo_run rfl rfl (run_fieldAddr rfl rfl Tryd.underlying37 rfl (ce3) (nf3)) ?_)
        refine wlo 1 2 rfl rfl rfl (wo_run rfl rfl (run_load1 rfl rfl Tryd.underlying3 rfl (S3.boxc (i := 0) rfl rfl)) ?_)
        refine wlo 2 3 rfl rfl rfl (wo_run rfl rfl (run_gtr rfl rfl rfl) ?_)
        refine wlm 3 4 rfl rfl rfl rfl rfl rfl rfl ?_
        refine wl_split (t := 41) rfl (fun hg41 => ?_) (fun hg41 => ?_)
        ·replace hg41 := of_decide_eq_true hg41
         exfalso; omega
        ·replace hg41 := of_decide_eq_false hg41
         refine wl_no (k := 4) (k' := 5) (d := 42) rfl rfl ⟨_, _, _, rfl, rfl, rfl, rfl⟩ rfl rfl ?_
         refine wl_no (k := 5) (k' := 6) (d := 43) rfl rfl ⟨_, _, _, rfl, rfl, rfl, rfl⟩ rfl rfl ?_
         refine wlo 6 7 rfl rfl rfl (wo_run rfl rfl (run_pickF rfl rfl rfl) ?_)
         refine wl_end rfl ?_
         refine nm_sub [(0, _), (3, _), (4, _), (5, _), (44, _)] ⟨rfl, rfl, rfl, rfl, rfl, trivial⟩ ?_
         refine nm_thn ?_
         refine ws_condFN PolyText_n47 rfl rfl rfl ?_
         refine ws_skip rfl ?_
         refine nm_sub [(0, _), (3, _), (4, _), (5, _)] ⟨rfl, rfl, rfl, rfl, trivial⟩ ?_
         refine nm_thn ?_
         refine ws_seqN PolyText_n48 PolyText_n49 rfl rfl rfl ?_
         refine ws_region rfl ?_
         refine wlo 0 1 rfl rfl rfl (wo_run rfl rfl (run_fieldAddr rfl rfl Tryd.underlying37 rfl (ce3) (nf3)) ?_)
         refine wlo 1 2 rfl rfl rfl (wo_run rfl rfl (run_load1 rfl rfl Tryd.underlying3 rfl (S3.boxc (i := 0) rfl rfl)) ?_)
         refine wlo 2 3 rfl rfl rfl (wo_cq rfl rfl rfl rfl rfl rfl rfl cf16 S3 (absR_q ((ga a i).c) ((by omega)) S3.lend) ?_)
         rintro _ w8 S8 rfl; clear S3
         refine wlo 3 4 rfl rfl rfl (wo_cq rfl rfl rfl rfl rfl rfl rfl cf15 S8 (dec_u (max ((ga a i).c) (-((ga a i).c))) (by omega) S8.lend) ?_)
         rintro _ w9 S9 rfl; clear S8
         refine wla 4 5 rfl rfl rfl rfl rfl rfl rfl ?_
         refine wl_end rfl ?_
         refine nm_sub [(0, _), (3, _), (4, _), (5, _), (6, _)] ⟨rfl, rfl, rfl, rfl, rfl, trivial⟩ ?_
         refine nm_thn ?_
         refine ws_seqN PolyText_n50 PolyText_n51 rfl rfl rfl ?_
         refine ws_seqN PolyText_n52 PolyText_n53 rfl rfl rfl ?_
         refine ws_region rfl ?_
         refine wlo 0 1 rfl rfl rfl (wo_run rfl rfl (run_fieldAddr rfl rfl Tryd.underlying37 rfl (ce3) (nf3)) ?_)
         refine wlo 1 2 rfl rfl rfl (wo_run rfl rfl (run_load1 rfl rfl Tryd.underlying3 rfl (S9.boxc (i := 0) rfl rfl)) ?_)
         refine wlo 2 3 rfl rfl rfl (wo_run rfl rfl (run_neq rfl rfl rfl) ?_)
         refine wlm 3 4 rfl rfl rfl rfl rfl rfl rfl ?_
         refine wl_split (t := 54) rfl (fun hg54 => ?_) (fun hg54 => ?_)
         ·replace hg54 := of_decide_eq_true hg54
          refine wl_opG (k := 4) (k' := 5) rfl rfl ⟨_, _, _, rfl, rfl, rfl, rfl⟩ rfl (wo_run rfl rfl (run_move rfl rfl) ?_)
          refine wl_opG (k := 5) (k' := 6) rfl rfl ⟨_, _, _, rfl, rfl, rfl, rfl⟩ rfl (wo_run rfl rfl (run_eqlD rfl rfl rfl) ?_)
          refine wlo 6 7 rfl rfl rfl (wo_run rfl rfl (run_pickT rfl rfl rfl) ?_)
          refine wl_end rfl ?_
          refine nm_sub [(0, _), (3, _), (4, _), (5, _), (6, _), (57, _)] ⟨rfl, rfl, rfl, rfl, rfl, rfl, trivial⟩ ?_
          refine nm_thn ?_
          refine ws_condN PolyText_n54 PolyText_n55 rfl rfl rfl rfl (fun hb57 => ?_) (fun hb57 => ?_)
          ·replace hb57 := of_decide_eq_true hb57
           have hone : max (ga a i).c (-(ga a i).c) = 1 := by have := dec_one.1 hb57; omega
           refine ws_region rfl ?_
           refine wla 0 1 rfl rfl rfl rfl rfl rfl rfl ?_
           refine wl_end rfl ?_
           refine nm_sub [(0, _), (3, _), (4, _), (5, _), (6, _)] ⟨rfl, rfl, rfl, rfl, rfl, trivial⟩ ?_
           refine nm_thn ?_
           refine ws_seqN PolyText_n56 PolyText_n57 rfl rfl rfl ?_
           refine ws_region rfl ?_
           refine wlm 0 1 rfl rfl rfl rfl rfl rfl rfl ?_
           refine wlm 1 2 rfl rfl rfl rfl rfl rfl rfl ?_
           refine wlo 2 3 rfl rfl rfl (wo_run rfl rfl (run_addS rfl rfl rfl ((by (try simp only [List.length_append, List.length_cons, List.length_nil]); first | omega | (simp only [lens]; omega)))) ?_)
           refine wla 3 4 rfl rfl rfl rfl rfl rfl rfl ?_
           refine wl_end rfl ?_
           refine nm_sub [(0, _), (3, _), (4, _), (5, _)] ⟨rfl, rfl, rfl, rfl, trivial⟩ ?_
           refine nm_thn ?_
           refine ws_seqN PolyText_n58 PolyText_n59 rfl rfl rfl ?_
           refine ws_region rfl ?_
           refine wlo 0 1 rfl rfl rfl (wo_run rfl rfl (run_fieldAddr rfl rfl Tryd.underlying37 rfl (ce3) (nf3)) ?_)
           refine wlo 1 2 rfl rfl rfl (wo_run rfl rfl (run_load1 rfl rfl Tryd.underlying3 rfl (S9.boxc (i := 0) rfl rfl)) ?_)
           refine wlo 2 3 rfl rfl rfl (wo_run rfl rfl (run_eql rfl rfl rfl) ?_)
           refine wl_end rfl ?_
           refine nm_sub [(0, _), (3, _), (4, _), (5, _), (68, _)] ⟨rfl, rfl, rfl, rfl, rfl, trivial⟩ ?_
           refine nm_thn ?_
           refine ws_condN PolyText_n60 PolyText_n61 rfl rfl rfl rfl (fun hb68 => ?_) (fun hb68 => ?_)
           ·replace hb68 := of_decide_eq_true hb68
            refine ws_region rfl ?_
            refine wlm 0 1 rfl rfl rfl rfl rfl rfl rfl ?_
            refine wlo 1 2 rfl rfl rfl (wo_run rfl rfl (run_addS rfl rfl rfl ((by (try simp only [List.length_append, List.length_cons, List.length_nil]); first | omega | (simp only [lens]; omega)))) ?_)
            refine wla 2 3 rfl rfl rfl rfl rfl rfl rfl ?_
            refine wl_end rfl ?_
            refine nm_blk ?_
            refine nm_sub [(0, _), (3, _), (4, _)] ⟨rfl, rfl, rfl, trivial⟩ ?_
            refine nm_thn ?_
            refine ws_region rfl ?_
            refine wlm 0 1 rfl rfl rfl rfl rfl rfl rfl ?_
            refine wlo 1 2 rfl rfl rfl (wo_run rfl rfl (run_add rfl rfl rfl (by first | omega | (simp only [lens]; omega))) ?_)
            refine wla 2 3 rfl rfl rfl rfl rfl rfl rfl ?_
            refine wl_end rfl ?_
            refine nm_lp ?_
            intro ax_ hax_
            refine ⟨_, ?hq7m, ⟨i + 1, (((s9 ++ ([32, 45, 32] : List UInt8)) ++ ([] : List UInt8)) ++ ([116] : List UInt8)), rfl, hax_.sub ⟨rfl, rfl, rfl, trivial⟩, S9.pick [] [] (by decide) trivial, ?hq7f0, ?hq7f1⟩⟩
            case hq7f0 => omega
            case hq7f1 => (rw [polT, ← hs9]; (first | rw [sgT_00 (by omega) (by omega)] | rw [sgT_01 (by omega) (by omega)] | rw [sgT_10 (by omega) (by omega)] | rw [sgT_11 (by omega) (by omega)]); (first | rw [bodyT_0 (by omega)] | rw [bodyT_1 (by omega) (by omega)] | rw [bodyT_2 (by omega) (by omega)]); (first | rw [powT_1 (by omega)] | rw [powT_2 (by omega)] | skip); (try unfold numT); all_goals (first | rfl | (simp only [List.append_assoc, List.append_nil, List.nil_append]; done) | (simp only [List.append_assoc, List.append_nil, List.nil_append]; rfl)))
            case hq7m => omega
           ·replace hb68 := of_decide_eq_false hb68
            refine ws_seqN PolyText_n62 PolyText_n63 rfl rfl rfl ?_
            refine ws_region rfl ?_
            refine wlo 0 1 rfl rfl rfl (wo_run rfl rfl (run_fieldAddr rfl rfl Tryd.underlying37 rfl (ce3) (nf3)) ?_)
            refine wlo 1 2 rfl rfl rfl (wo_run rfl rfl (run_load1 rfl rfl Tryd.underlying3 rfl (S9.boxc (i := 0) rfl rfl)) ?_)
            refine wlo 2 3 rfl rfl rfl (wo_run rfl rfl (run_neq rfl rfl rfl) ?_)
            refine wl_end rfl ?_
            refine nm_sub [(0, _), (3, _), (4, _), (5, _), (73, _)] ⟨rfl, rfl, rfl, rfl, rfl, trivial⟩ ?_
            refine nm_thn ?_
            refine ws_condN PolyText_n64 PolyText_n65 rfl rfl rfl rfl (fun hb73 => ?_) (fun hb73 => ?_)
            ·replace hb73 := of_decide_eq_true hb73
             refine ws_region rfl ?_
             refine wlm 0 1 rfl rfl rfl rfl rfl rfl rfl ?_
             refine wlo 1 2 rfl rfl rfl (wo_run rfl rfl (run_addS rfl rfl rfl ((by (try simp only [List.length_append, List.length_cons, List.length_nil]); first | omega | (simp only [lens]; omega)))) ?_)
             refine wlo 2 3 rfl rfl rfl (wo_run rfl rfl (run_fieldAddr rfl rfl Tryd.underlying37 rfl (ce3) (nf3)) ?_)
             refine wlo 3 4 rfl rfl rfl (wo_run rfl rfl (run_load1 rfl rfl Tryd.underlying3 rfl (S9.boxc (i := 0) rfl rfl)) ?_)
             refine wlo 4 5 rfl rfl rfl (wo_cq rfl rfl rfl rfl rfl rfl rfl cf15 S9 (dec_z ((ga a i).e) (by omega) S9.lend) ?_)
             rintro _ w10 S10 rfl; clear S9
             refine wlo 5 6 rfl rfl rfl (wo_run rfl rfl (run_addS rfl rfl rfl ((by (try simp only [List.length_append, List.length_cons, List.length_nil]); first | omega | (simp only [lens]; omega)))) ?_)
             refine wla 6 7 rfl rfl rfl rfl rfl rfl rfl ?_
             refine wl_end rfl ?_
             refine nm_blk ?_
             refine nm_sub [(0, _), (3, _), (4, _)] ⟨rfl, rfl, rfl, trivial⟩ ?_
             refine nm_thn ?_
             refine ws_region rfl ?_
             refine wlm 0 1 rfl rfl rfl rfl rfl rfl rfl ?_
             refine wlo 1 2 rfl rfl rfl (wo_run rfl rfl (run_add rfl rfl rfl (by first | omega | (simp only [lens]; omega))) ?_)
             refine wla 2 3 rfl rfl rfl rfl rfl rfl rfl ?_
             refine wl_end rfl ?_
             refine nm_lp ?_
             intro ax_ hax_
             refine ⟨_, ?hq8m, ⟨i + 1, ((((s9 ++ ([32, 45, 32] : List UInt8)) ++ ([] : List UInt8)) ++ ([116, 94] : List UInt8)) ++ (Lib.itoa ((ga a i).e))), rfl, hax_.sub ⟨rfl, rfl, rfl, trivial⟩, S10.pick [] [] (by decide) trivial, ?hq8f0, ?hq8f1⟩⟩
             case hq8f0 => omega
             case hq8f1 => (rw [polT, ← hs9]; (first | rw [sgT_00 (by omega) (by omega)] | rw [sgT_01 (by omega) (by omega)] | rw [sgT_10 (by omega) (by omega)] | rw [sgT_11 (by omega) (by omega)]); (first | rw [bodyT_0 (by omega)] | rw [bodyT_1 (by omega) (by omega)] | rw [bodyT_2 (by omega) (by omega)]); (first | rw [powT_1 (by omega)] | rw [powT_2 (by omega)] | skip); (try unfold numT); all_goals (first | rfl | (simp only [List.append_assoc, List.append_nil, List.nil_append]; done) | (simp only [List.append_assoc, List.append_nil, List.nil_append]; rfl)))
             case hq8m => omega
            ·replace hb73 := of_decide_eq_false hb73
             exfalso; omega
          ·replace hb57 := of_decide_eq_false hb57
           have hone : ¬ max (ga a i).c (-(ga a i).c) = 1 := fun h => hb57 (dec_one.2 (by omega))
           refine ws_seqN PolyText_n66 PolyText_n67 rfl rfl rfl ?_
           refine ws_region rfl ?_
           refine wlo 0 1 rfl rfl rfl (wo_run rfl rfl (run_fieldAddr rfl rfl Tryd.underlying37 rfl (ce3) (nf3)) ?_)
           refine wlo 1 2 rfl rfl rfl (wo_run rfl rfl (run_load1 rfl rfl Tryd.underlying3 rfl (S9.boxc (i := 0) rfl rfl)) ?_)
           refine wlo 2 3 rfl rfl rfl (wo_run rfl rfl (run_neq rfl rfl rfl) ?_)
           refine wl_end rfl ?_
           refine nm_sub [(0, _), (3, _), (4, _), (5, _), (6, _), (60, _)] ⟨rfl, rfl, rfl, rfl, rfl, rfl, trivial⟩ ?_
           refine nm_thn ?_
           refine ws_condN PolyText_n68 PolyText_n69 rfl rfl rfl rfl (fun hb60 => ?_) (fun hb60 => ?_)
           ·replace hb60 := of_decide_eq_true hb60
            refine ws_region rfl ?_
            refine wlm 0 1 rfl rfl rfl rfl rfl rfl rfl ?_
            refine wlo 1 2 rfl rfl rfl (wo_run rfl rfl (run_addS rfl rfl rfl ((by (try simp only [List.length_append, List.length_cons, List.length_nil]); first | omega | (simp only [lens]; omega)))) ?_)
            refine wla 2 3 rfl rfl rfl rfl rfl rfl rfl ?_
            refine wl_end rfl ?_
            refine nm_sub [(0, _), (3, _), (4, _), (5, _), (6, _)] ⟨rfl, rfl, rfl, rfl, rfl, trivial⟩ ?_
            refine nm_thn ?_
            refine ws_seqN PolyText_n56 PolyText_n57 rfl rfl rfl ?_
            refine ws_region rfl ?_
            refine wlm 0 1 rfl rfl rfl rfl rfl rfl rfl ?_
            refine wlm 1 2 rfl rfl rfl rfl rfl rfl rfl ?_
            refine wlo 2 3 rfl rfl rfl (wo_run rfl rfl (run_addS rfl rfl rfl ((by (try simp only [List.length_append, List.length_cons, List.length_nil]); first | omega | (simp only [lens]; omega)))) ?_)
            refine wla 3 4 rfl rfl rfl rfl rfl rfl rfl ?_
            refine wl_end rfl ?_
            refine nm_sub [(0, _), (3, _), (4, _), (5, _)] ⟨rfl, rfl, rfl, rfl, trivial⟩ ?_
            refine nm_thn ?_
            refine ws_seqN PolyText_n58 PolyText_n59 rfl rfl rfl ?_
            refine ws_region rfl ?_
            refine wlo 0 1 rfl rfl rfl (wo_run rfl rfl (run_fieldAddr rfl rfl Tryd.underlying37 rfl (ce3) (nf3)) ?_)
            refine wlo 1 2 rfl rfl rfl (wo_run rfl rfl (run_load1 rfl rfl Tryd.underlying3 rfl (S9.boxc (i := 0) rfl rfl)) ?_)
            refine wlo 2 3 rfl rfl rfl (wo_run rfl rfl (run_eql rfl rfl rfl) ?_)
            refine wl_end rfl ?_
            refine nm_sub [(0, _), (3, _), (4, _), (5, _), (68, _)] ⟨rfl, rfl, rfl, rfl, rfl, trivial⟩ ?_
            refine nm_thn ?_
            refine ws_condN PolyText_n60 PolyText_n61 rfl rfl rfl rfl (fun hb68 => ?_) (fun hb68 => ?_)
            ·replace hb68 := of_decide_eq_true hb68
             refine ws_region rfl ?_
             refine wlm 0 1 rfl rfl rfl rfl rfl rfl rfl ?_
             refine wlo 1 2 rfl rfl rfl (wo_run rfl rfl (run_addS rfl rfl rfl ((by (try simp only [List.length_append, List.length_cons, List.length_nil]); first | omega | (simp only [lens]; omega)))) ?_)
             refine wla 2 3 rfl rfl rfl rfl rfl rfl rfl ?_
             refine wl_end rfl ?_
             refine nm_blk ?_
             refine nm_sub [(0, _), (3, _), (4, _)] ⟨rfl, rfl, rfl, trivial⟩ ?_
             refine nm_thn ?_
             refine ws_region rfl ?_
             refine wlm 0 1 rfl rfl rfl rfl rfl rfl rfl ?_
             refine wlo 1 2 rfl rfl rfl (wo_run rfl rfl (run_add rfl rfl rfl (by first | omega | (simp only [lens]; omega))) ?_)
             refine wla 2 3 rfl rfl rfl rfl rfl rfl rfl ?_
             refine wl_end rfl ?_
             refine nm_lp ?_
             intro ax_ hax_
             refine ⟨_, ?hq9m, ⟨i + 1, (((s9 ++ ([32, 45, 32] : List UInt8)) ++ ((Lib.decDigits (max ((ga a i).c) (-((ga a i).c))).toNat) ++ ([42] : List UInt8))) ++ ([116] : List UInt8)), rfl, hax_.sub ⟨rfl, rfl, rfl, trivial⟩, S9.pick [] [] (by decide) trivial, ?hq9f0, ?hq9f1⟩⟩
             case hq9f0 => omega
             case hq9f1 => (rw [polT, ← hs9]; (first | rw [sgT_00 (by omega) (by omega)] | rw [sgT_01 (by omega) (by omega)] | rw [sgT_10 (by omega) (by omega)] | rw [sgT_11 (by omega) (by omega)]); (first | rw [bodyT_0 (by omega)] | rw [bodyT_1 (by omega) (by omega)] | rw [bodyT_2 (by omega) (by omega)]); (first | rw [powT_1 (by omega)] | rw [powT_2 (by omega)] | skip); (try unfold numT); all_goals (first | rfl | (simp only [List.append_assoc, List.append_nil, List.nil_append]; done) | (simp only [List.append_assoc, List.append_nil, List.nil_append]; rfl)))
             case hq9m => omega
            ·replace hb68 := of_decide_eq_false hb68
             refine ws_seqN PolyText_n62 PolyText_n63 rfl rfl rfl ?_
             refine ws_region rfl ?_
             refine wlo 0 1 rfl rfl rfl (wo_run rfl rfl (run_fieldAddr rfl rfl Tryd.underlying37 rfl (ce3) (nf3)) ?_)
             refine wlo 1 2 rfl rfl rfl (wo_run rfl rfl (run_load1 rfl rfl Tryd.underlying3 rfl (S9.boxc (i := 0) rfl rfl)) ?_)
             refine wlo 2 3 rfl rfl rfl (wo_run rfl rfl (run_neq rfl rfl rfl) ?_)
             refine wl_end rfl ?_
             refine nm_sub [(0, _), (3, _), (4, _), (5, _), (73, _)] ⟨rfl, rfl, rfl, rfl, rfl, trivial⟩ ?_
             refine nm_thn ?_
             refine ws_condN PolyText_n64 PolyText_n65 rfl rfl rfl rfl (fun hb73 => ?_) (fun hb73 => ?_)
             ·replace hb73 := of_decide_eq_true hb73
              refine ws_region rfl ?_
              refine wlm 0 1 rfl rfl rfl rfl rfl rfl rfl ?_
              refine wlo 1 2 rfl rfl rfl (wo_run rfl rfl (run_addS rfl rfl rfl ((by (try simp only [List.length_append, List.length_cons, List.length_nil]); first | omega | (simp only [lens]; omega)))) ?_)
              refine wlo 2 3 rfl rfl rfl (wo_run rfl rfl (run_fieldAddr rfl rfl Tryd.underlying37 rfl (ce3) (nf3)) ?_)
              refine wlo 3 4 rfl rfl rfl (wo_run rfl rfl (run_load1 rfl rfl Tryd.underlying3 rfl (S9.boxc (i := 0) rfl rfl)) ?_)
              refine wlo 4 5 rfl rfl rfl (wo_cq rfl rfl rfl rfl rfl rfl rfl cf15 S9 (dec_z ((ga a i).e) (by omega) S9.lend) ?_)
              rintro _ w11 S11 rfl; clear S9
              refine wlo 5 6 rfl rfl rfl (wo_run rfl rfl (run_addS rfl rfl rfl ((by (try simp only [List.length_append, List.length_cons, List.length_nil]); first | omega | (simp only [lens]; omega)))) ?_)
              refine wla 6 7 rfl rfl rfl rfl rfl rfl rfl ?_
              refine wl_end rfl ?_
              refine nm_blk ?_
              refine nm_sub [(0, _), (3, _), (4, _)] ⟨rfl, rfl, rfl, trivial⟩ ?_
              refine nm_thn ?_
              refine ws_region rfl ?_
              refine wlm 0 1 rfl rfl rfl rfl rfl rfl rfl ?_
              refine wlo 1 2 rfl rfl rfl (wo_run rfl rfl (run_add rfl rfl rfl (by first | omega | (simp only [lens]; omega))) ?_)
              refine wla 2 3 rfl rfl rfl rfl rfl rfl rfl ?_
              refine wl_end rfl ?_
              refine nm_lp ?_
              intro ax_ hax_
              refine ⟨_, ?hq10m, ⟨i + 1, ((((s9 ++ ([32, 45, 32] : List UInt8)) ++ ((Lib.decDigits (max ((ga a i).c) (-((ga a i).c))).toNat) ++ ([42] : List UInt8))) ++ ([116, 94] : List UInt8)) ++ (Lib.itoa ((ga a i).e))), rfl, hax_.sub ⟨rfl, rfl, rfl, trivial⟩, S11.pick [] [] (by decide) trivial, ?hq10f0, ?hq10f1⟩⟩
              case hq10f0 => omega
              case hq10f1 => (rw [polT, ← hs9]; (first | rw [sgT_00 (by omega) (by omega)] | rw [sgT_01 (by omega) (by omega)] | rw [sgT_10 (by omega) (by omega)] | rw [sgT_11 (by omega) (by omega)]); (first | rw [bodyT_0 (by omega)] | rw [bodyT_1 (by omega) (by omega)] | rw [bodyT_2 (by omega) (by omega)]); (first | rw [powT_1 (by omega)] | rw [powT_2 (by omega)] | skip); (try unfold numT); all_goals (first | rfl | (simp only [List.append_assoc, List.append_nil, List.nil_append]; done) | (simp only [List.append_assoc, List.append_nil, List.nil_append]; rfl)))
              case hq10m => omega
             ·replace hb73 := of_decide_eq_false hb73
              exfalso; omega
           ·replace hb60 := of_decide_eq_false hb60
            exfalso; omega
         ·replace hg54 := of_decide_eq_false hg54
          refine wl_no (k := 4) (k' := 5) (d := 55) rfl rfl ⟨_, _, _, rfl, rfl, rfl, rfl⟩ rfl rfl ?_
          refine wl_no (k := 5) (k' := 6) (d := 56) rfl rfl ⟨_, _, _, rfl, rfl, rfl, rfl⟩ rfl rfl ?_
          refine wlo 6 7 rfl rfl rfl (wo_run rfl rfl (run_pickF rfl rfl rfl) ?_)
          refine wl_end rfl ?_
          refine nm_sub [(0, _), (3, _), (4, _), (5, _), (6, _), (57, _)] ⟨rfl, rfl, rfl, rfl, rfl, rfl, trivial⟩ ?_
          refine nm_thn ?_
          refine ws_condFN PolyText_n55 rfl rfl rfl ?_
          refine ws_seqN PolyText_n66 PolyText_n67 rfl rfl rfl ?_
          refine ws_region rfl ?_
          refine wlo 0 1 rfl rfl rfl (wo_run rfl rfl (run_fieldAddr rfl rfl Tryd.underlying37 rfl (ce3) (nf3)) ?_)
          refine wlo 1 2 rfl rfl rfl (wo_run rfl rfl (run_load1 rfl rfl Tryd.underlying3 rfl (S9.boxc (i := 0) rfl rfl)) ?_)
          refine wlo 2 3 rfl rfl rfl (wo_run rfl rfl (run_neq rfl rfl rfl) ?_)
          refine wl_end rfl ?_
          refine nm_sub [(0, _), (3, _), (4, _), (5, _), (6, _), (60, _)] ⟨rfl, rfl, rfl, rfl, rfl, rfl, trivial⟩ ?_
          refine nm_thn ?_
          refine ws_condN PolyText_n68 PolyText_n69 rfl rfl rfl rfl (fun hb60 => ?_) (fun hb60 => ?_)
          ·replace hb60 := of_decide_eq_true hb60
           exfalso; omega
          ·replace hb60 := of_decide_eq_false hb60
           refine ws_skip rfl ?_
           refine nm_sub [(0, _), (3, _), (4, _), (5, _), (6, _)] ⟨rfl, rfl, rfl, rfl, rfl, trivial⟩ ?_
           refine nm_thn ?_
           refine ws_seqN PolyText_n56 PolyText_n57 rfl rfl rfl ?_
           refine ws_region rfl ?_
           refine wlm 0 1 rfl rfl rfl rfl rfl rfl rfl ?_
           refine wlm 1 2 rfl rfl rfl rfl rfl rfl rfl ?_
           refine wlo 2 3 rfl rfl rfl (wo_run rfl rfl (run_addS rfl rfl rfl ((by (try simp only [List.length_append, List.length_cons, List.length_nil]); first | omega | (simp only [lens]; omega)))) ?_)
           refine wla 3 4 rfl rfl rfl rfl rfl rfl rfl ?_
           refine wl_end rfl ?_
           refine nm_sub [(0, _), (3, _), (4, _), (5, _)] ⟨rfl, rfl, rfl, rfl, trivial⟩ ?_
           refine nm_thn ?_
           refine ws_seqN PolyText_n58 PolyText_n59 rfl rfl rfl ?_
           refine ws_region rfl ?_
           refine wlo 0 1 rfl rfl rfl (wo_run rfl rfl (run_fieldAddr rfl rfl Tryd.underlying37 rfl (ce3) (nf3)) ?_)
           refine wlo 1 2 rfl rfl rfl (wo_run rfl rfl (run_load1 rfl rfl Tryd.underlying3 rfl (S9.boxc (i := 0) rfl rfl)) ?_)
           refine wlo 2 3 rfl rfl rfl (wo_run rfl rfl (run_eql rfl rfl rfl) ?_)
           refine wl_end rfl ?_
           refine nm_sub [(0, _), (3, _), (4, _), (5, _), (68, _)] ⟨rfl, rfl, rfl, rfl, rfl, trivial⟩ ?_
           refine nm_thn ?_
           refine ws_condN PolyText_n60 PolyText_n61 rfl rfl rfl rfl (fun hb68 => ?_) (fun hb68 => ?_)
           ·replace hb68 := of_decide_eq_true hb68
            exfalso; omega
           ·replace hb68 := of_decide_eq_false hb68
            refine ws_seqN PolyText_n62 PolyText_n63 rfl rfl rfl ?_
            refine ws_region rfl ?_
            refine wlo 0 1 rfl rfl rfl (wo_run rfl rfl (run_fieldAddr rfl rfl Tryd.underlying37 rfl (ce3) (nf3)) ?_)
            refine wlo 1 2 rfl rfl rfl (wo_run rfl rfl (run_load1 rfl rfl Tryd.underlying3 rfl (S9.boxc (i := 0) rfl rfl)) ?_)
            refine wlo 2 3 rfl rfl rfl (wo_run rfl rfl (run_neq rfl rfl rfl) ?_)
            refine wl_end rfl ?_
            refine nm_sub [(0, _), (3, _), (4, _), (5, _), (73, _)] ⟨rfl, rfl, rfl, rfl, rfl, trivial⟩ ?_
            refine nm_thn ?_
            refine ws_condN PolyText_n64 PolyText_n65 rfl rfl rfl rfl (fun hb73 => ?_) (fun hb73 => ?_)
            ·replace hb73 := of_decide_eq_true hb73
             exfalso; omega
            ·replace hb73 := of_decide_eq_false hb73
             refine ws_skip rfl ?_
             refine nm_blk ?_
             refine nm_sub [(0, _), (3, _), (4, _)] ⟨rfl, rfl, rfl, trivial⟩ ?_
             refine nm_thn ?_
             refine ws_region rfl ?_
             refine wlm 0 1 rfl rfl rfl rfl rfl rfl rfl ?_
             refine wlo 1 2 rfl rfl rfl (wo_run rfl rfl (run_add rfl rfl rfl (by first | omega | (simp only [lens]; omega))) ?_)
             refine wla 2 3 rfl rfl rfl rfl rfl rfl rfl ?_
             refine wl_end rfl ?_
             refine nm_lp ?_
             intro ax_ hax_
             refine ⟨_, ?hq11m, ⟨i + 1, ((s9 ++ ([32, 45, 32] : List UInt8)) ++ (Lib.decDigits (max ((ga a i).c) (-((ga a i).c))).toNat)), rfl, hax_.sub ⟨rfl, rfl, rfl, trivial⟩, S9.pick [] [] (by decide) trivial, ?hq11f0, ?hq11f1⟩⟩
             case hq11f0 => omega
             case hq11f1 => (rw [polT, ← hs9]; (first | rw [sgT_00 (by omega) (by omega)] | rw [sgT_01 (by omega) (by omega)] | rw [sgT_10 (by omega) (by omega)] | rw [sgT_11 (by omega) (by omega)]); (first | rw [bodyT_0 (by omega)] | rw [bodyT_1 (by omega) (by omega)] | rw [bodyT_2 (by omega) (by omega)]); (first | rw [powT_1 (by omega)] | rw [powT_2 (by omega)] | skip); (try unfold numT); all_goals (first | rfl | (simp only [List.append_assoc, List.append_nil, List.nil_append]; done) | (simp only [List.append_assoc, List.append_nil, List.nil_append]; rfl)))
             case hq11m => omega
       ·replace hb35 := of_decide_eq_false hb35
        exfalso; omega
      ·replace hg32 := of_decide_eq_false hg32
       exfalso; omega
    ·replace hg23 := of_decide_eq_false hg23
     refine wl_no (k := 4) (k' := 5) (d := 24) rfl rfl ⟨_, _, _, rfl, rfl, rfl, rfl⟩ rfl rfl ?_
     refine wl_no (k := 5) (k' := 6) (d := 25) rfl rfl ⟨_, _, _, rfl, rfl, rfl, rfl⟩ rfl rfl ?_
     refine wlo 6 7 rfl rfl rfl (wo_run rfl rfl (run_pickF rfl rfl rfl) ?_)
     refine wl_end rfl ?_
     refine nm_sub [(0, _), (3, _), (4, _), (5, _), (26, _)] ⟨rfl, rfl, rfl, rfl, rfl, trivial⟩ ?_
     refine nm_thn ?_
     refine ws_condFN PolyText_n35 rfl rfl rfl ?_
     refine ws_skip rfl ?_
     refine nm_sub [(0, _), (3, _), (4, _), (5, _)] ⟨rfl, rfl, rfl, rfl, trivial⟩ ?_
     refine nm_thn ?_
     refine ws_seqN PolyText_n36 PolyText_n37 rfl rfl rfl ?_
     refine ws_seqN PolyText_n38 PolyText_n39 rfl rfl rfl ?_
     refine ws_region rfl ?_
     refine wlo 0 1 rfl rfl rfl (wo_run rfl rfl (run_fieldAddr rfl rfl Tryd.underlying37 rfl (ce3) (nf3)) ?_)
     refine wlo 1 2 rfl rfl rfl (wo_run rfl rfl (run_load1 rfl rfl Tryd.underlying3 rfl (S3.boxc (i := 0) rfl rfl)) ?_)
     refine wlo 2 3 rfl rfl rfl (wo_run rfl rfl (run_lss rfl rfl rfl) ?_)
     refine wlm 3 4 rfl rfl rfl rfl rfl rfl rfl ?_
     refine wl_split (t := 32) rfl (fun hg32 => ?_) (fun hg32 => ?_)
     ·replace hg32 := of_decide_eq_true hg32
      exfalso; omega
     ·replace hg32 := of_decide_eq_false hg32
      refine wl_no (k := 4) (k' := 5) (d := 33) rfl rfl ⟨_, _, _, rfl, rfl, rfl, rfl⟩ rfl rfl ?_
      refine wl_no (k := 5) (k' := 6) (d := 34) rfl rfl ⟨_, _, _, rfl, rfl, rfl, rfl⟩ rfl rfl ?_
      refine wlo 6 7 rfl rfl rfl (wo_run rfl rfl (run_pickF rfl rfl rfl) ?_)
      refine wl_end rfl ?_
      refine nm_sub [(0, _), (3, _), (4, _), (5, _), (35, _)] ⟨rfl, rfl, rfl, rfl, rfl, trivial⟩ ?_
      refine nm_thn ?_
      refine ws_condFN PolyText_n41 rfl rfl rfl ?_
      refine ws_skip rfl ?_
      refine nm_sub [(0, _), (3, _), (4, _), (5, _)] ⟨rfl, rfl, rfl, rfl, trivial⟩ ?_
      refine nm_thn ?_
      refine ws_seqN PolyText_n42 PolyText_n43 rfl rfl rfl ?_
      refine ws_seqN PolyText_n44 PolyText_n45 rfl rfl rfl ?_
      refine ws_region rfl ?_
      refine wlo 0 1 rfl rfl rfl (wo_run rfl rfl (run_fieldAddr rfl rfl Tryd.underlying37 rfl (ce3) (nf3)) ?_)
      refine wlo 1 2 rfl rfl rfl (wo_run rfl rfl (run_load1 rfl rfl Tryd.underlying3 rfl (S3.boxc (i := 0) rfl rfl)) ?_)
      refine wlo 2 3 rfl rfl rfl (wo_run rfl rfl (run_gtr rfl rfl rfl) ?_)
      refine wlm 3 4 rfl rfl rfl rfl rfl rfl rfl ?_
      refine wl_split (t := 41) rfl (fun hg41 => ?_) (fun hg41 => ?_)
      ·replace hg41 := of_decide_eq_true hg41
       refine wl_opG (k := 4) (k' := 5) rfl rfl ⟨_, _, _, rfl, rfl, rfl, rfl⟩ rfl (wo_run rfl rfl (run_move rfl rfl) ?_)
       refine wl_opG (k := 5) (k' := 6) rfl rfl ⟨_, _, _, rfl, rfl, rfl, rfl⟩ rfl (wo_run rfl rfl (run_gtr rfl rfl rfl) ?_)
       refine wlo 6 7 rfl rfl rfl (wo_run rfl rfl (run_pickT rfl rfl rfl) ?_)
       refine wl_end rfl ?_
       refine nm_sub [(0, _), (3, _), (4, _), (5, _), (44, _)] ⟨rfl, rfl, rfl, rfl, rfl, trivial⟩ ?_
       refine nm_thn ?_
       refine ws_condN PolyText_n46 PolyText_n47 rfl rfl rfl rfl (fun hb44 => ?_) (fun hb44 => ?_)
       ·replace hb44 := of_decide_eq_true hb44
        refine ws_region rfl ?_
        refine wlm 0 1 rfl rfl rfl rfl rfl rfl rfl ?_
        refine wlo 1 2 rfl rfl rfl (wo_run rfl rfl (run_addS rfl rfl rfl ((by (try simp only [List.length_append, List.length_cons, List.length_nil]); first | omega | (simp only [lens]; omega)))) ?_)
        refine wla 2 3 rfl rfl rfl rfl rfl rfl rfl ?_
        refine wl_end rfl ?_
        refine nm_sub [(0, _), (3, _), (4, _), (5, _)] ⟨rfl, rfl, rfl, rfl, trivial⟩ ?_
        refine nm_thn ?_
        refine ws_seqN PolyText_n48 PolyText_n49 rfl rfl rfl ?_
        refine ws_region rfl ?_
        refine wlo 0 1 rfl rfl rfl (wo_run rfl rfl (run_fieldAddr rfl rfl Tryd.underlying37 rfl (ce3) (nf3)) ?_)
        refine wlo 1 2 rfl rfl rfl (wo_run rfl rfl (run_load1 rfl rfl Tryd.underlying3 rfl (S3.boxc (i := 0) rfl rfl)) ?_)
        refine wlo 2 3 rfl rfl rfl (wo_cq rfl rfl rfl rfl rfl rfl rfl cf16 S3 (absR_q ((ga a i).c) ((by omega)) S3.lend) ?_)
        rintro _ w12 S12 rfl; clear S3
        refine wlo 3 4 rfl rfl rfl (wo_cq rfl rfl rfl rfl rfl rfl rfl cf15 S12 (dec_u (max ((ga a i).c) (-((ga a i).c))) (by omega) S12.lend) ?_)
        rintro _ w13 S13 rfl; clear S12
        refine wla 4 5 rfl rfl rfl rfl rfl rfl rfl ?_
        refine wl_end rfl ?_
        refine nm_sub [(0, _), (3, _), (4, _), (5, _), (6, _)] ⟨rfl, rfl, rfl, rfl, rfl, trivial⟩ ?_
        refine nm_thn ?_
        refine ws_seqN PolyText_n50 PolyText_n51 rfl rfl rfl ?_
        refine ws_seqN PolyText_n52 PolyText_n53 rfl rfl rfl ?_
        refine ws_region rfl ?_
        refine wlo 0 1 rfl rfl rfl (wo_run rfl rfl (run_fieldAddr rfl rfl Tryd.underlying37 rfl (ce3) (nf3)) ?_)
        refine wlo 1 2 rfl rfl rfl (wo_run rfl rfl (run_load1 rfl rfl Tryd.underlying3 rfl (S13.boxc (i := 0) rfl rfl)) ?_)
        refine wlo 2 3 rfl rfl rfl (wo_run rfl rfl (run_neq rfl rfl rfl) ?_)
        refine wlm 3 4 rfl rfl rfl rfl rfl rfl rfl ?_
        refine wl_split (t := 54) rfl (fun hg54 => ?_) (fun hg54 => ?_)
        ·replace hg54 := of_decide_eq_true hg54
         refine wl_opG (k := 4) (k' := 5) rfl rfl ⟨_, _, _, rfl, rfl, rfl, rfl⟩ rfl (wo_run rfl rfl (run_move rfl rfl) ?_)
         refine wl_opG (k := 5) (k' := 6) rfl rfl ⟨_, _, _, rfl, rfl, rfl, rfl⟩ rfl (wo_run rfl rfl (run_eqlD rfl rfl rfl) ?_)
         refine wlo 6 7 rfl rfl rfl (wo_run rfl rfl (run_pickT rfl rfl rfl) ?_)
         refine wl_end rfl ?_
         refine nm_sub [(0, _), (3, _), (4, _), (5, _), (6, _), (57, _)] ⟨rfl, rfl, rfl, rfl, rfl, rfl, trivial⟩ ?_
         refine nm_thn ?_
         refine ws_condN PolyText_n54 PolyText_n55 rfl rfl rfl rfl (fun hb57 => ?_) (fun hb57 => ?_)
         ·replace hb57 := of_decide_eq_true hb57
          have hone : max (ga a i).c (-(ga a i).c) = 1 := by have := dec_one.1 hb57; omega
          refine ws_region rfl ?_
          refine wla 0 1 rfl rfl rfl rfl rfl rfl rfl ?_
          refine wl_end rfl ?_
          refine nm_sub [(0, _), (3, _), (4, _), (5, _), (6, _)] ⟨rfl, rfl, rfl, rfl, rfl, trivial⟩ ?_
          refine nm_thn ?_
          refine ws_seqN PolyText_n56 PolyText_n57 rfl rfl rfl ?_
          refine ws_region rfl ?_
          refine wlm 0 1 rfl rfl rfl rfl rfl rfl rfl ?_
          refine wlm 1 2 rfl rfl rfl rfl rfl rfl rfl ?_
          refine wlo 2 3 rfl rfl rfl (wo_run rfl rfl (run_addS rfl rfl rfl ((by (try simp only [List.length_append, List.length_cons, List.length_nil]); first | omega | (simp only [lens]; omega)))) ?_)
          refine wla 3 4 rfl rfl rfl rfl rfl rfl rfl ?_
          refine wl_end rfl ?_
          refine nm_sub [(0, _), (3, _), (4, _), (5, _)] ⟨rfl, rfl, rfl, rfl, trivial⟩ ?_
          refine nm_thn ?_
          refine ws_seqN PolyText_n58 PolyText_n59 rfl rfl rfl ?_
          refine ws_region rfl ?_
          refine wlo 0 1 rfl rfl rfl (wo_run rfl rfl (run_fieldAddr rfl rfl Tryd.underlying37 rfl (ce3) (nf3)) ?_)
          refine wlo 1 2 rfl rfl rfl (wo_run rfl rfl (run_load1 rfl rfl Tryd.underlying3 rfl (S13.boxc (i := 0) rfl rfl)) ?_)
          refine wlo 2 3 rfl rfl rfl (wo_run rfl rfl (run_eql rfl rfl rfl) ?_)
          refine wl_end rfl ?_
          refine nm_sub [(0, _), (3, _), (4, _), (5, _), (68, _)] ⟨rfl, rfl, rfl, rfl, rfl, trivial⟩ ?_
          refine nm_thn ?_
          refine ws_condN PolyText_n60 PolyText_n61 rfl rfl rfl rfl (fun hb68 => ?_) (fun hb68 => ?_)
          ·replace hb68 := of_decide_eq_true hb68
           refine ws_region rfl ?_
           refine wlm 0 1 rfl rfl rfl rfl rfl rfl rfl ?_
           refine wlo 1 2 rfl rfl rfl (wo_run rfl rfl (run_addS rfl rfl rfl ((by (try simp only [List.length_append, List.length_cons, List.length_nil]); first | omega | (simp only [lens]; omega)))) ?_)
           refine wla 2 3 rfl rfl rfl rfl rfl rfl rfl ?_
           refine wl_end rfl ?_
           refine nm_blk ?_
           refine nm_sub [(0, _), (3, _), (4, _)] ⟨rfl, rfl, rfl, trivial⟩ ?_
           refine nm_thn ?_
           refine ws_region rfl ?_
           refine wlm 0 1 rfl rfl rfl rfl rfl rfl rfl ?_
           refine wlo 1 2 rfl rfl rfl (wo_run rfl rfl (run_add rfl rfl rfl (by first | omega | (simp only [lens]; omega))) ?_)
           refine wla 2 3 rfl rfl rfl rfl rfl rfl rfl ?_
           refine wl_end rfl ?_
           refine nm_lp ?_
           intro ax_ hax_
           refine ⟨_, ?hq12m, ⟨i + 1, (((s9 ++ ([32, 43, 32] : List UInt8)) ++ ([] : List UInt8)) ++ ([116] : List UInt8)), rfl, hax_.sub ⟨rfl, rfl, rfl, trivial⟩, S13.pick [] [] (by decide) trivial, ?hq12f0, ?hq12f1⟩⟩
           case hq12f0 => omega
           case hq12f1 => (rw [polT, ← hs9]; (first | rw [sgT_00 (by omega) (by omega)] | rw [sgT_01 (by omega) (by omega)] | rw [sgT_10 (by omega) (by omega)] | rw [sgT_11 (by omega) (by omega)]); (first | rw [bodyT_0 (by omega)] | rw [bodyT_1 (by omega) (by omega)] | rw [bodyT_2 (by omega) (by omega)]); (first | rw [powT_1 (by omega)] | rw [powT_2 (by omega)] | skip); (try unfold numT); all_goals (first | rfl | (simp only [List.append_assoc, List.append_nil, List.nil_append]; done) | (simp only [List.append_assoc, List.append_nil, List.nil_append]; rfl)))
           case hq12m => omega
          ·replace hb68 := of_decide_eq_false hb68
           refine ws_seqN PolyText_n62 PolyText_n63 rfl rfl rfl ?_
           refine ws_region rfl ?_
           refine wlo 0 1 rfl rfl rfl (wo_run rfl rfl (run_fieldAddr rfl rfl Tryd.underlying37 rfl (ce3) (nf3)) ?_)
           refine wlo 1 2 rfl rfl rfl (wo_run rfl rfl (run_load1 rfl rfl Tryd.underlying3 rfl (S13.boxc (i := 0) rfl rfl)) ?_)
           refine wlo 2 3 rfl rfl rfl (wo_run rfl rfl (run_neq rfl rfl rfl) ?_)
           refine wl_end rfl ?_
           refine nm_sub [(0, _), (3, _), (4, _), (5, _), (73, _)] ⟨rfl, rfl, rfl, rfl, rfl, trivial⟩ ?_
           refine nm_thn ?_
           refine ws_condN PolyText_n64 PolyText_n65 rfl rfl rfl rfl (fun hb73 => ?_) (fun hb73 => ?_)
           ·replace hb73 := of_decide_eq_true hb73
            refine ws_region rfl ?_
            refine wlm 0 1 rfl rfl rfl rfl rfl rfl rfl ?_
            refine wlo 1 2 rfl rfl rfl (wo_run rfl rfl (run_addS rfl rfl rfl ((by (try simp only [List.length_append, List.length_cons, List.length_nil]); first | omega | (simp only [lens]; omega)))) ?_)
            refine wlo 2 3 rfl rfl rfl (wo_run rfl rfl (run_fieldAddr rfl rfl Tryd.underlying37 rfl (ce3) (nf3)) ?_)
            refine wlo 3 4 rfl rfl rfl (wo_run rfl rfl (run_load1 rfl rfl Tryd.underlying3 rfl (S13.boxc (i := 0) rfl rfl)) ?_)
            refine wlo 4 5 rfl rfl rfl (wo_cq rfl rfl rfl rfl rfl rfl rfl cf15 S13 (dec_z ((ga a i).e) (by omega) S13.lend) ?_)
            rintro _ w14 S14 rfl; clear S13
            refine wlo 5 6 rfl rfl rfl (wo_run rfl rfl (run_addS rfl rfl rfl ((by (try simp only [List.length_append, List.length_cons, List.length_nil]); first | omega | (simp only [lens]; omega)))) ?_)
            refine wla 6 7 rfl rfl rfl rfl rfl rfl rfl ?_
            refine wl_end rfl ?_
            refine nm_blk ?_
            refine nm_sub [(0, _), (3, _), (4, _)] ⟨rfl, rfl, rfl, trivial⟩ ?_
            refine nm_thn ?_
            refine ws_region rfl ?_
            refine wlm 0 1 rfl rfl rfl rfl rfl rfl rfl ?_
            refine wlo 1 2 rfl rfl rfl (wo_run rfl rfl (run_add rfl rfl rfl (by first | omega | (simp only [lens]; omega))) ?_)
            refine wla 2 3 rfl rfl rfl rfl rfl rfl rfl ?_
            refine wl_end rfl ?_
            refine nm_lp ?_
            intro ax_ hax_
            refine ⟨_, ?hq13m, ⟨i + 1, ((((s9 ++ ([32, 43, 32] : List UInt8)) ++ ([] : List UInt8)) ++ ([116, 94] : List UInt8)) ++ (Lib.itoa ((ga a i).e))), rfl, hax_.sub ⟨rfl, rfl, rfl, trivial⟩, S14.pick [] [] (by decide) trivial, ?hq13f0, ?hq13f1⟩⟩
            case hq13f0 => omega
            case hq13f1 => (rw [polT, ← hs9]; (first | rw [sgT_00 (by omega) (by omega)] | rw [sgT_01 (by omega) (by omega)] | rw [sgT_10 (by omega) (by omega)] | rw [sgT_11 (by omega) (by omega)]); (first | rw [bodyT_0 (by omega)] | rw [bodyT_1 (by omega) (by omega)] | rw [bodyT_2 (by omega) (by omega)]); (first | rw [powT_1 (by omega)] | rw [powT_2 (by omega)] | skip); (try unfold numT); all_goals (first | rfl | (simp only [List.append_assoc, List.append_nil, List.nil_append]; done) | (simp only [List.append_assoc, List.append_nil, List.nil_append]; rfl)))
            case hq13m => omega
           ·replace hb73 := of_decide_eq_false hb73
            exfalso; omega
         ·replace hb57 := of_decide_eq_false hb57
          have hone : ¬ max (ga a i).c (-(ga a i).c) = 1 := fun h => hb57 (dec_one.2 (by omega))
          refine ws_seqN PolyText_n66 PolyText_n67 rfl rfl rfl ?_
          refine ws_region rfl ?_
          refine wlo 0 1 rfl rfl rfl (wo_run rfl rfl (run_fieldAddr rfl rfl Tryd.underlying37 rfl (ce3) (nf3)) ?_)
          refine wlo 1 2 rfl rfl rfl (wo_run rfl rfl (run_load1 rfl rfl Tryd.underlying3 rfl (S13.boxc (i := 0) rfl rfl)) ?_)
          refine wlo 2 3 rfl rfl rfl (wo_run rfl rfl (run_neq rfl rfl rfl) ?_)
          refine wl_end rfl ?_
          refine nm_sub [(0, _), (3, _), (4, _), (5, _), (6, _), (60, _)] ⟨rfl, rfl, rfl, rfl, rfl, rfl, trivial⟩ ?_
          refine nm_thn ?_
          refine ws_condN PolyText_n68 PolyText_n69 rfl rfl rfl rfl (fun hb60 => ?_) (fun hb60 => ?_)
          ·replace hb60 := of_decide_eq_true hb60
           refine ws_region rfl ?_
           refine wlm 0 1 rfl rfl rfl rfl rfl rfl rfl ?_
           refine wlo 1 2 rfl rfl rfl (wo_run rfl rfl (run_addS rfl rfl rfl ((by (try simp only [List.length_append, List.length_cons, List.length_nil]); first | omega | (simp only [lens]; omega)))) ?_)
           refine wla 2 3 rfl rfl rfl rfl rfl rfl rfl ?_
           refine wl_end rfl ?_
           refine nm_sub [(0, _), (3, _), (4, _), (5, _), (6, _)] ⟨rfl, rfl, rfl, rfl, rfl, trivial⟩ ?_
           refine nm_thn ?_
           refine ws_seqN PolyText_n56 PolyText_n57 rfl rfl rfl ?_
           refine ws_region rfl ?_
           refine wlm 0 1 rfl rfl rfl rfl rfl rfl rfl ?_
           refine wlm 1 2 rfl rfl rfl rfl rfl rfl rfl ?_
           refine wlo 2 3 rfl rfl rfl (wo_run rfl rfl (run_addS rfl rfl rfl ((by (try simp only [List.length_append, List.length_cons, List.length_nil]); first | omega | (simp only [lens]; omega)))) ?_)
           refine wla 3 4 rfl rfl rfl rfl rfl rfl rfl ?_
           refine wl_end rfl ?_
           refine nm_sub [(0, _), (3, _), (4, _), (5, _)] ⟨rfl, rfl, rfl, rfl, trivial⟩ ?_
           refine nm_thn ?_
           refine ws_seqN PolyText_n58 PolyText_n59 rfl rfl rfl ?_
           refine ws_region rfl ?_
           refine wlo 0 1 rfl rfl rfl (wo_run rfl rfl (run_fieldAddr rfl rfl Tryd.underlying37 rfl (ce3) (nf3)) ?_)
           refine wlo 1 2 rfl rfl rfl (wo_run rfl rfl (run_load1 rfl rfl Tryd.underlying3 rfl (S13.boxc (i := 0) rfl rfl)) ?_)
           refine wlo 2 3 rfl rfl rfl (wo_run rfl rfl (run_eql rfl rfl rfl) ?_)
           refine wl_end rfl ?_
           refine nm_sub [(0, _), (3, _), (4, _), (5, _), (68, _)] ⟨rfl, rfl, rfl, rfl, rfl, trivial⟩ ?_
           refine nm_thn ?_
           refine ws_condN PolyText_n60 PolyText_n61 rfl rfl rfl rfl (fun hb68 => ?_) (fun hb68 => ?_)
           ·replace hb68 := of_decide_eq_true hb68
            refine ws_region rfl ?_
            refine wlm 0 1 rfl rfl rfl rfl rfl rfl rfl ?_
            refine wlo 1 2 rfl rfl rfl (wo_run rfl rfl (run_addS rfl rfl rfl ((by (try simp only [List.length_append, List.length_cons, List.length_nil]); first | omega | (simp only [lens]; omega)))) ?_)
            refine wla 2 3 rfl rfl rfl rfl rfl rfl rfl ?_
            refine wl_end rfl ?_
            refine nm_blk ?_
            refine nm_sub [(0, _), (3, _), (4, _)] ⟨rfl, rfl, rfl, trivial⟩ ?_
            refine nm_thn ?_
            refine ws_region rfl ?_
            refine wlm 0 1 rfl rfl rfl rfl rfl rfl rfl ?_
            refine wlo 1 2 rfl rfl rfl (wo_run rfl rfl (run_add rfl rfl rfl (by first | omega | (simp only [lens]; omega))) ?_)
            refine wla 2 3 rfl rfl rfl rfl rfl rfl rfl ?_
            refine wl_end rfl ?_
            refine nm_lp ?_
            intro ax_ hax_
            refine ⟨_, ?hq14m, ⟨i + 1, (((s9 ++ ([32, 43, 32] : List UInt8)) ++ ((Lib.decDigits (max ((ga a i).c) (-((ga a i).c))).toNat) ++ ([42] : List UInt8))) ++ ([116] : List UInt8)), rfl, hax_.sub ⟨rfl, rfl, rfl, trivial⟩, S13.pick [] [] (by decide) trivial, ?hq14f0, ?hq14f1⟩⟩
            case hq14f0 => omega
            case hq14f1 => (rw [polT, ← hs9]; (first | rw [sgT_00 (by omega) (by omega)] | rw [sgT_01 (by omega) (by omega)] | rw [sgT_10 (by omega) (by omega)] | rw [sgT_11 (by omega) (by omega)]); (first | rw [bodyT_0 (by omega)] | rw [bodyT_1 (by omega) (by omega)] | rw [bodyT_2 (by omega) (by omega)]); (first | rw [powT_1 (by omega)] | rw [powT_2 (by omega)] | skip); (try unfold numT); all_goals (first | rfl | (simp only [List.append_assoc, List.append_nil, List.nil_append]; done) | (simp only [List.append_assoc, List.append_nil, List.nil_append]; rfl)))
            case hq14m => omega
           ·replace hb68 := of_decide_eq_false hb68
            refine ws_seqN PolyText_n62 PolyText_n63 rfl rfl rfl ?_
            refine ws_region rfl ?_
            refine wlo 0 1 rfl rfl rfl (wo_run rfl rfl (run_fieldAddr rfl rfl Tryd.underlying37 rfl (ce3) (nf3)) ?_)
            refine wlo 1 2 rfl rfl rfl (wo_run rfl rfl (run_load1 rfl rfl Tryd.underlying3 rfl (S13.boxc (i := 0) rfl rfl)) ?_)
            refine wlo 2 3 rfl rfl rfl (wo_run rfl rfl (run_neq rfl rfl rfl) ?_)
            refine wl_end rfl ?_
            refine nm_sub [(0, _), (3, _), (4, _), (5, _), (73, _)] ⟨rfl, rfl, rfl, rfl, rfl, trivial⟩ ?_
            refine nm_thn ?_
            refine ws_condN PolyText_n64 PolyText_n65 rfl rfl rfl rfl (fun hb73 => ?_) (fun hb73 => ?_)
            ·replace hb73 := of_decide_eq_true hb73
             refine ws_region rfl ?_
             refine wlm 0 1 rfl rfl rfl rfl rfl rfl rfl ?_
             refine wlo 1 2 rfl rfl rfl (wo_run rfl rfl (run_addS rfl rfl rfl ((by (try simp only [List.length_append, List.length_cons, List.length_nil]); first | omega | (simp only [lens]; omega)))) ?_)
             refine wlo 2 3 rfl rfl rfl (wo_run rfl rfl (run_fieldAddr rfl rfl Tryd.underlying37 rfl (ce3) (nf3)) ?_)
             refine wlo 3 4 rfl rfl rfl (wo_run rfl rfl (run_load1 rfl rfl Tryd.underlying3 rfl (S13.boxc (i := 0) rfl rfl)) ?_)
             refine wlo 4 5 rfl rfl rfl (wo_cq rfl rfl rfl rfl rfl rfl rfl cf15 S13 (dec_z ((ga a i).e) (by omega) S13.lend) ?_)
             rintro _ w15 S15 rfl; clear S13
             refine wlo 5 6 rfl rfl rfl (wo_run rfl rfl (run_addS rfl rfl rfl ((by (try simp only [List.length_append, List.length_cons, List.length_nil]); first | omega | (simp only [lens]; omega)))) ?_)
             refine wla 6 7 rfl rfl rfl rfl rfl rfl rfl ?_
             refine wl_end rfl ?_
             refine nm_blk ?_
             refine nm_sub [(0, _), (3, _), (4, _)] ⟨rfl, rfl, rfl, trivial⟩ ?_
             refine nm_thn ?_
             refine ws_region rfl ?_
             refine wlm 0 1 rfl rfl rfl rfl rfl rfl rfl ?_
             refine wlo 1 2 rfl rfl rfl (wo_run rfl rfl (run_add rfl rfl rfl (by first | omega | (simp only [lens]; omega))) ?_)
             refine wla 2 3 rfl rfl rfl rfl rfl rfl rfl ?_
             refine wl_end rfl ?_
             refine nm_lp ?_
             intro ax_ hax_
             refine ⟨_, ?hq15m, ⟨i + 1, ((((s9 ++ ([32, 43, 32] : List UInt8)) ++ ((Lib.decDigits (max ((ga a i).c) (-((ga a i).c))).toNat) ++ ([42] : List UInt8))) ++ ([116, 94] : List UInt8)) ++ (Lib.itoa ((ga a i).e))), rfl, hax_.sub ⟨rfl, rfl, rfl, trivial⟩, S15.pick [] [] (by decide) trivial, ?hq15f0, ?hq15f1⟩⟩
             case hq15f0 => omega
             case hq15f1 => (rw [polT, ← hs9]; (first | rw [sgT_00 (by omega) (by omega)] | rw [sgT_01 (by omega) (by omega)] | rw [sgT_10 (by omega) (by omega)] | rw [sgT_11 (by omega) (by omega)]); (first | rw [bodyT_0 (by omega)] | rw [bodyT_1 (by omega) (by omega)] | rw [bodyT_2 (by omega) (by omega)]); (first | rw [powT_1 (by omega)] | rw [powT_2 (by omega)] | skip); (try unfold numT); all_goals (first | rfl | (simp only [List.append_assoc, List.append_nil, List.nil_append]; done) | (simp only [List.append_assoc, List.append_nil, List.nil_append]; rfl)))
             case hq15m => omega
            ·replace hb73 := of_decide_eq_false hb73
             exfalso; omega
          ·replace hb60 := of_decide_eq_false hb60
           exfalso; omega
        ·replace hg54 := of_decide_eq_false hg54
         refine wl_no (k := 4) (k' := 5) (d := 55) rfl rfl ⟨_, _, _, rfl, rfl, rfl, rfl⟩ rfl rfl ?_
         refine wl_no (k := 5) (k' := 6) (d := 56) rfl rfl ⟨_, _, _, rfl, rfl, rfl, rfl⟩ rfl rfl ?_
         refine wlo 6 7 rfl rfl rfl (wo_run rfl rfl (run_pickF rfl rfl rfl) ?_)
         refine wl_end rfl ?_
         refine nm_sub [(0, _), (3, _), (4, _), (5, _), (6, _), (57, _)] ⟨rfl, rfl, rfl, rfl, rfl, rfl, trivial⟩ ?_
         refine nm_thn ?_
         refine ws_condFN PolyText_n55 rfl rfl rfl ?_
         refine ws_seqN PolyText_n66 PolyText_n67 rfl rfl rfl ?_
         refine ws_region rfl ?_
         refine wlo 0 1 rfl rfl rfl (wo_run rfl rfl (run_fieldAddr rfl rfl Tryd.underlying37 rfl (ce3) (nf3)) ?_)
         refine wlo 1 2 rfl rfl rfl (wo_run rfl rfl (run_load1 rfl rfl Tryd.underlying3 rfl (S13.boxc (i := 0) rfl rfl)) ?_)
         refine wlo 2 3 rfl rfl rfl (wo_run rfl rfl (run_neq rfl rfl rfl) ?_)
         refine wl_end rfl ?_
         refine nm_sub [(0, _), (3, _), (4, _), (5, _), (6, _), (60, _)] ⟨rfl, rfl, rfl, rfl, rfl, rfl, trivial⟩ ?_
         refine nm_thn ?_
         refine ws_condN PolyText_n68 PolyText_n69 rfl rfl rfl rfl (fun hb60 => ?_) (fun hb60 => ?_)
         ·replace hb60 := of_decide_eq_true hb60
          exfalso; omega
         ·replace hb60 := of_decide_eq_false hb60
          refine ws_skip rfl ?_
          refine nm_sub [(0, _), (3, _), (4, _), (5, _), (6, _)] ⟨rfl, rfl, rfl, rfl, rfl, trivial⟩ ?_
          refine nm_thn ?_
          refine ws_seqN PolyText_n56 PolyText_n57 rfl rfl rfl ?_
          refine ws_region rfl ?_
          refine wlm 0 1 rfl rfl rfl rfl rfl rfl rfl ?_
          refine wlm 1 2 rfl rfl rfl rfl rfl rfl rfl ?_
          refine wlo 2 3 rfl rfl rfl (wo_run rfl rfl (run_addS rfl rfl rfl ((by (try simp only [List.length_append, List.length_cons, List.length_nil]); first | omega | (simp only [lens]; omega)))) ?_)
          refine wla 3 4 rfl rfl rfl rfl rfl rfl rfl ?_
          refine wl_end rfl ?_
          refine nm_sub [(0, _), (3, _), (4, _), (5, _)] ⟨rfl, rfl, rfl, rfl, trivial⟩ ?_
          refine nm_thn ?_
          refine ws_seqN PolyText_n58 PolyText_n59 rfl rfl rfl ?_
          refine ws_region rfl ?_
          refine wlo 0 1 rfl rfl rfl (wo_run rfl rfl (run_fieldAddr rfl rfl Tryd.underlying37 rfl (ce3) (nf3)) ?_)
          refine wlo 1 2 rfl rfl rfl (wo_run rfl rfl (run_load1 rfl rfl Tryd.underlying3 rfl (S13.boxc (i := 0) rfl rfl)) ?_)
          refine wlo 2 3 rfl rfl rfl (wo_run rfl rfl (run_eql rfl rfl rfl) ?_)
          refine wl_end rfl ?_
          refine nm_sub [(0, _), (3, _), (4, _), (5, _), (68, _)] ⟨rfl, rfl, rfl, rfl, rfl, trivial⟩ ?_
          refine nm_thn ?_
          refine ws_condN PolyText_n60 PolyText_n61 rfl rfl rfl rfl (fun hb68 => ?_) (fun hb68 => ?_)
          ·replace hb68 := of_decide_eq_true hb68
           exfalso; omega
          ·replace hb68 := of_decide_eq_false hb68
           refine ws_seqN PolyText_n62 PolyText_n63 rfl rfl rfl ?_
           refine ws_region rfl ?_
           refine wlo 0 1 rfl rfl rfl (wo_run rfl rfl (run_fieldAddr rfl rfl Tryd.underlying37 rfl (ce3) (nf3)) ?_)
           refine wlo 1 2 rfl rfl rfl (wo_run rfl rfl (run_load1 rfl rfl Tryd.underlying3 rfl (S13.boxc (i := 0) rfl rfl)) ?_)
           refine wlo 2 3 rfl rfl rfl (wo_run rfl rfl (run_neq rfl rfl rfl) ?_)
           refine wl_end rfl ?_
           refine nm_sub [(0, _), (3, _), (4, _), (5, _), (73, _)] ⟨rfl, rfl, rfl, rfl, rfl, trivial⟩ ?_
           refine nm_thn ?_
           refine ws_condN PolyText_n64 PolyText_n65 rfl rfl rfl rfl (fun hb73 => ?_) (fun hb73 => ?_)
           ·replace hb73 := of_decide_eq_true hb73
            exfalso; omega
           ·replace hb73 := of_decide_eq_false hb73
            refine ws_skip rfl ?_
            refine nm_blk ?_
            refine nm_sub [(0, _), (3, _), (4, _)] ⟨rfl, rfl, rfl, trivial⟩ ?_
            refine nm_thn ?_
            refine ws_region rfl ?_
            refine wlm 0 1 rfl rfl rfl rfl rfl rfl rfl ?_
            refine wlo 1 2 rfl rfl rfl (wo_run rfl rfl (run_add rfl rfl rfl (by first | omega | (simp only [lens]; omega))) ?_)
            refine wla 2 3 rfl rfl rfl rfl rfl rfl rfl ?_
            refine wl_end rfl ?_
            refine nm_lp ?_
            intro ax_ hax_
            refine ⟨_, ?hq16m, ⟨i + 1, ((s9 ++ ([32, 43, 32] : List UInt8)) ++ (Lib.decDigits (max ((ga a i).c) (-((ga a i).c))).toNat)), rfl, hax_.sub ⟨rfl, rfl, rfl, trivial⟩, S13.pick [] [] (by decide) trivial, ?hq16f0, ?hq16f1⟩⟩
            case hq16f0 => omega
            case hq16f1 => (rw [polT, ← hs9]; (first | rw [sgT_00 (by omega) (by omega)] | rw [sgT_01 (by omega) (by omega)] | rw [sgT_10 (by omega) (by omega)] | rw [sgT_11 (by omega) (by omega)]); (first | rw [bodyT_0 (by omega)] | rw [bodyT_1 (by omega) (by omega)] | rw [bodyT_2 (by omega) (by omega)]); (first | rw [powT_1 (by omega)] | rw [powT_2 (by omega)] | skip); (try unfold numT); all_goals (first | rfl | (simp only [List.append_assoc, List.append_nil, List.nil_append]; done) | (simp only [List.append_assoc, List.append_nil, List.nil_append]; rfl)))
            case hq16m => omega
       ·replace hb44 := of_decide_eq_false hb44
        refine ws_skip rfl ?_
        refine nm_sub [(0, _), (3, _), (4, _), (5, _)] ⟨rfl, rfl, rfl, rfl, trivial⟩ ?_
        refine nm_thn ?_
        refine ws_seqN PolyText_n48 PolyText_n49 rfl rfl rfl ?_
        refine ws_region rfl ?_
        refine wlo 0 1 rfl rfl rfl (wo_run rfl rfl (run_fieldAddr rfl rfl Tryd.underlying37 rfl (ce3) (nf3)) ?_)
        refine wlo 1 2 rfl rfl rfl (wo_run rfl rfl (run_load1 rfl rfl Tryd.underlying3 rfl (S3.boxc (i := 0) rfl rfl)) ?_)
        refine wlo 2 3 rfl rfl rfl (wo_cq rfl rfl rfl rfl rfl rfl rfl cf16 S3 (absR_q ((ga a i).c) ((by omega)) S3.lend) ?_)
        rintro _ w16 S16 rfl; clear S3
        refine wlo 3 4 rfl rfl rfl (wo_cq rfl rfl rfl rfl rfl rfl rfl cf15 S16 (dec_u (max ((ga a i).c) (-((ga a i).c))) (by omega) S16.lend) ?_)
        rintro _ w17 S17 rfl; clear S16
        refine wla 4 5 rfl rfl rfl rfl rfl rfl rfl ?_
        refine wl_end rfl ?_
        refine nm_sub [(0, _), (3, _), (4, _), (5, _), (6, _)] ⟨rfl, rfl, rfl, rfl, rfl, trivial⟩ ?_
        refine nm_thn ?_
        refine ws_seqN PolyText_n50 PolyText_n51 rfl rfl rfl ?_
        refine ws_seqN PolyText_n52 PolyText_n53 rfl rfl rfl ?_
        refine ws_region rfl ?_
        refine wlo 0 1 rfl rfl rfl (wo_run rfl rfl (run_fieldAddr rfl rfl Tryd.underlying37 rfl (ce3) (nf3)) ?_)
        refine wlo 1 2 rfl rfl rfl (wo_run rfl rfl (run_load1 rfl rfl Tryd.underlying3 rfl (S17.boxc (i := 0) rfl rfl)) ?_)
        refine wlo 2 3 rfl rfl rfl (wo_run rfl rfl (run_neq rfl rfl rfl) ?_)
        refine wlm 3 4 rfl rfl rfl rfl rfl rfl rfl ?_
        refine wl_split (t := 54) rfl (fun hg54 => ?_) (fun hg54 => ?_)
        ·replace hg54 := of_decide_eq_true hg54
         refine wl_opG (k := 4) (k' := 5) rfl rfl ⟨_, _, _, rfl, rfl, rfl, rfl⟩ rfl (wo_run rfl rfl (run_move rfl rfl) ?_)
         refine wl_opG (k := 5) (k' := 6) rfl rfl ⟨_, _, _, rfl, rfl, rfl, rfl⟩ rfl (wo_run rfl rfl (run_eqlD rfl rfl rfl) ?_)
         refine wlo 6 7 rfl rfl rfl (wo_run rfl rfl (run_pickT rfl rfl rfl) ?_)
         refine wl_end rfl ?_
         refine nm_sub [(0, _), (3, _), (4, _), (5, _), (6, _), (57, _)] ⟨rfl, rfl, rfl, rfl, rfl, rfl, trivial⟩ ?_
         refine nm_thn ?_
         refine ws_condN PolyText_n54 PolyText_n55 rfl rfl rfl rfl (fun hb57 => ?_) (fun hb57 => ?_)
         ·replace hb57 := of_decide_eq_true hb57
          have hone : max (ga a i).c (-(ga a i).c) = 1 := by have := dec_one.1 hb57; omega
          refine ws_region rfl ?_
          refine wla 0 1 rfl rfl rfl rfl rfl rfl rfl ?_
          refine wl_end rfl ?_
          refine nm_sub [(0, _), (3, _), (4, _), (5, _), (6, _)] ⟨rfl, rfl, rfl, rfl, rfl, trivial⟩ ?_
          refine nm_thn ?_
          refine ws_seqN PolyText_n56 PolyText_n57 rfl rfl rfl ?_
          refine ws_region rfl ?_
          refine wlm 0 1 rfl rfl rfl rfl rfl rfl rfl ?_
          refine wlm 1 2 rfl rfl rfl rfl rfl rfl rfl ?_
          refine wlo 2 3 rfl rfl rfl (wo_run rfl rfl (run_addS rfl rfl rfl ((by (try simp only [List.length_append, List.length_cons, List.length_nil]); first | omega | (simp only [lens]; omega)))) ?_)
          refine wla 3 4 rfl rfl rfl rfl rfl rfl rfl ?_
          refine wl_end rfl ?_
          refine nm_sub [(0, _), (3, _), (4, _), (5, _)] ⟨rfl, rfl, rfl, rfl, trivial⟩ ?_
          refine nm_thn ?_
          refine ws_seqN PolyText_n58 PolyText_n59 rfl rfl rfl ?_
          refine ws_region rfl ?_
          refine wlo 0 1 rfl rfl rfl (wo_run rfl rfl (run_fieldAddr rfl rfl Tryd.underlying37 rfl (ce3) (nf3)) ?_)
          refine wlo 1 2 rfl rfl rfl (wo_run rfl rfl (run_load1 rfl rfl Tryd.underlying3 rfl (S17.boxc (i := 0) rfl rfl)) ?_)
          refine wlo 2 3 rfl rfl rfl (wo_run rfl rfl (run_eql rfl rfl rfl) ?_)
          refine wl_end rfl ?_
          refine nm_sub [(0, _), (3, _), (4, _), (5, _), (68, _)] ⟨rfl, rfl, rfl, rfl, rfl, trivial⟩ ?_
          refine nm_thn ?_
          refine ws_condN PolyText_n60 PolyText_n61 rfl rfl rfl rfl (fun hb68 => ?_) (fun hb68 => ?_)
          ·replace hb68 := of_decide_eq_true hb68
           refine ws_region rfl ?_
           refine wlm 0 1 rfl rfl rfl rfl rfl rfl rfl ?_
           refine wlo 1 2 rfl rfl rfl (wo_run rfl rfl (run_addS rfl rfl rfl ((by (try simp only [List.length_append, List.length_cons, List.length_nil]); first | omega | (simp only [lens]; omega)))) ?_)
           refine wla 2 3 rfl rfl rfl rfl rfl rfl rfl ?_
           refine wl_end rfl ?_
           refine nm_blk ?_
           refine nm_sub [(0, _), (3, _), (4, _)] ⟨rfl, rfl, rfl, trivial⟩ ?_
           refine nm_thn ?_
           refine ws_region rfl ?_
           refine wlm 0 1 rfl rfl rfl rfl rfl rfl rfl ?_
           refine wlo 1 2 rfl rfl rfl (wo_run rfl rfl (run_add rfl rfl rfl (by first | omega | (simp only [lens]; omega))) ?_)
           refine wla 2 3 rfl rfl rfl rfl rfl rfl rfl ?_
           refine wl_end rfl ?_
           refine nm_lp ?_
           intro ax_ hax_
           refine ⟨_, ?hq17m, ⟨i + 1, ((s9 ++ ([] : List UInt8)) ++ ([116] : List UInt8)), rfl, hax_.sub ⟨rfl, rfl, rfl, trivial⟩, S17.pick [] [] (by decide) trivial, ?hq17f0, ?hq17f1⟩⟩
           case hq17f0 => omega
           case hq17f1 => (rw [polT, ← hs9]; (first | rw [sgT_00 (by omega) (by omega)] | rw [sgT_01 (by omega) (by omega)] | rw [sgT_10 (by omega) (by omega)] | rw [sgT_11 (by omega) (by omega)]); (first | rw [bodyT_0 (by omega)] | rw [bodyT_1 (by omega) (by omega)] | rw [bodyT_2 (by omega) (by omega)]); (first | rw [powT_1 (by omega)] | rw [powT_2 (by omega)] | skip); (try unfold numT); all_goals (first | rfl | (simp only [List.append_assoc, List.append_nil, List.nil_append]; done) | (simp only [List.append_assoc, List.append_nil, List.nil_append]; rfl)))
           case hq17m => omega
          ·replace hb68 := of_decide_eq_false hb68
           refine ws_seqN PolyText_n62 PolyText_n63 rfl rfl rfl ?_
           refine ws_region rfl ?_
           refine wlo 0 1 rfl rfl rfl (wo_run rfl rfl (run_fieldAddr rfl rfl Tryd.underlying37 rfl (ce3) (nf3)) ?_)
           refine wlo 1 2 rfl rfl rfl (wo_run rfl rfl (run_load1 rfl rfl Tryd.underlying3 rfl (S17.boxc (i := 0) rfl rfl)) ?_)
           refine wlo 2 3 rfl rfl rfl (wo_run rfl rfl (run_neq rfl rfl rfl) ?_)
           refine wl_end rfl ?_
           refine nm_sub [(0, _), (3, _), (4, _), (5, _), (73, _)] ⟨rfl, rfl, rfl, rfl, rfl, trivial⟩ ?_
           refine nm_thn ?_
           refine ws_condN PolyText_n64 PolyText_n65 rfl rfl rfl rfl (fun hb73 => ?_) (fun hb73 => ?_)
           ·replace hb73 := of_decide_eq_true hb73
            refine ws_region rfl ?_
            refine wlm 0 1 rfl rfl rfl rfl rfl rfl rfl ?_
            refine wlo 1 2 rfl rfl rfl (wo_run rfl rfl (run_addS rfl rfl rfl ((by (try simp only [List.length_append, List.length_cons, List.length_nil]); first | omega | (simp only [lens]; omega)))) ?_)
            refine wlo 2 3 rfl rfl rfl (wo_run rfl rfl (run_fieldAddr rfl rfl Tryd.underlying37 rfl (ce3) (nf3)) ?_)
            refine wlo 3 4 rfl rfl rfl (wo_run rfl rfl (run_load1 rfl rfl Tryd.underlying3 rfl (S17.boxc (i := 0) rfl rfl)) ?_)
            refine wlo 4 5 rfl rfl rfl (wo_cq rfl rfl rfl rfl rfl rfl rfl cf15 S17 (dec_z ((ga a i).e) (by omega) S17.lend) ?_)
            rintro _ w18 S18 rfl; clear S17
            refine wlo 5 6 rfl rfl rfl (wo_run rfl rfl (run_addS rfl rfl rfl ((by (try simp only [List.length_append, List.length_cons, List.length_nil]); first | omega | (simp only [lens]; omega)))) ?_)
            refine wla 6 7 rfl rfl rfl rfl rfl rfl rfl ?_
            refine wl_end rfl ?_
            refine nm_blk ?_
            refine nm_sub [(0, _), (3, _), (4, _)] ⟨rfl, rfl, rfl, trivial⟩ ?_
            refine nm_thn ?_
            refine ws_region rfl ?_
            refine wlm 0 1 rfl rfl rfl rfl rfl rfl rfl ?_
            refine wlo 1 2 rfl rfl rfl (wo_run rfl rfl (run_add rfl rfl rfl (by first | omega | (simp only [lens]; omega))) ?_)
            refine wla 2 3 rfl rfl rfl rfl rfl rfl rfl ?_
            refine wl_end rfl ?_
            refine nm_lp ?_
            intro ax_ hax_
            refine ⟨_, ?hq18m, ⟨i + 1, (((s9 ++ ([] : List UInt8)) ++ ([116, 94] : List UInt8)) ++ (Lib.itoa ((ga a i).e))), rfl, hax_.sub ⟨rfl, rfl, rfl, trivial⟩, S18.pick [] [] (by decide) trivial, ?hq18f0, ?hq18f1⟩⟩
            case hq18f0 => omega
            case hq18f1 => (rw [polT, ← hs9]; (first | rw [sgT_00 (by omega) (by omega)] | rw [sgT_01 (by omega) (by omega)] | rw [sgT_10 (by omega) (by omega)] | rw [sgT_11 (by omega) (by omega)]); (first | rw [bodyT_0 (by omega)] | rw [bodyT_1 (by omega) (by omega)] | rw [bodyT_2 (by omega) (by omega)]); (first | rw [powT_1 (by omega)] | rw [powT_2 (by omega)] | skip); (try unfold numT); all_goals (first | rfl | (simp only [List.append_assoc, List.append_nil, List.nil_append]; done) | (simp only [List.append_assoc, List.append_nil, List.nil_append]; rfl)))
            case hq18m => omega
           ·replace hb73 := of_decide_eq_false hb73
            exfalso; omega
         ·replace hb57 := of_decide_eq_false hb57
          have hone : ¬ max (ga a i).c (-(ga a i).c) = 1 := fun h => hb57 (dec_one.2 (by omega))
          refine ws_seqN PolyText_n66 PolyText_n67 rfl rfl rfl ?_
          refine ws_region rfl ?_
          refine wlo 0 1 rfl rfl rfl (wo_run rfl rfl (run_fieldAddr rfl rfl Tryd.underlying37 rfl (ce3) (nf3)) ?_)
          refine wlo 1 2 rfl rfl rfl (wo_run rfl rfl (run_load1 rfl rfl Tryd.underlying3 rfl (S17.boxc (i := 0) rfl rfl)) ?_)
          refine wlo 2 3 rfl rfl rfl (wo_run rfl rfl (run_neq rfl rfl rfl) ?_)
          refine wl_end rfl ?_
          refine nm_sub [(0, _), (3, _), (4, _), (5, _), (6, _), (60, _)] ⟨rfl, rfl, rfl, rfl, rfl, rfl, trivial⟩ ?_
          refine nm_thn ?_
          refine ws_condN PolyText_n68 PolyText_n69 rfl rfl rfl rfl (fun hb60 => ?_) (fun hb60 => ?_)
          ·replace hb60 := of_decide_eq_true hb60
           refine ws_region rfl ?_
           refine wlm 0 1 rfl rfl rfl rfl rfl rfl rfl ?_
           refine wlo 1 2 rfl rfl rfl (wo_run rfl rfl (run_addS rfl rfl rfl ((by (try simp only [List.length_append, List.length_cons, List.length_nil]); first | omega | (simp only [lens]; omega)))) ?_)
           refine wla 2 3 rfl rfl rfl rfl rfl rfl rfl ?_
           refine wl_end rfl ?_
           refine nm_sub [(0, _), (3, _), (4, _), (5, _), (6, _)] ⟨rfl, rfl, rfl, rfl, rfl, trivial⟩ ?_
           refine nm_thn ?_
           refine ws_seqN PolyText_n56 PolyText_n57 rfl rfl rfl ?_
           refine ws_region rfl ?_
           refine wlm 0 1 rfl rfl rfl rfl rfl rfl rfl ?_
           refine wlm 1 2 rfl rfl rfl rfl rfl rfl rfl ?_
           refine wlo 2 3 rfl rfl rfl (wo_run rfl rfl (run_addS rfl rfl rfl ((by (try simp only [List.length_append, List.length_cons, List.length_nil]); first | omega | (simp only [lens]; omega)))) ?_)
           refine wla 3 4 rfl rfl rfl rfl rfl rfl rfl ?_
           refine wl_end rfl ?_
           refine nm_sub [(0, _), (3, _), (4, _), (5, _)] ⟨rfl, rfl, rfl, rfl, trivial⟩ ?_
           refine nm_thn ?_
           refine ws_seqN PolyText_n58 PolyText_n59 rfl rfl rfl ?_
           refine ws_region rfl ?_
           refine wlo 0 1 rfl rfl rfl (wo_run rfl rfl (run_fieldAddr rfl rfl Tryd.underlying37 rfl (ce3) (nf3)) ?_)
           refine wlo 1 2 rfl rfl rfl (wo_run rfl rfl (run_load1 rfl rfl Tryd.underlying3 rfl (S17.boxc (i := 0) rfl rfl)) ?_)
           refine wlo 2 3 rfl rfl rfl (wo_run rfl rfl (run_eql rfl rfl rfl) ?_)
           refine wl_end rfl ?_
           refine nm_sub [(0, _), (3, _), (4, _), (5, _), (68, _)] ⟨rfl, rfl, rfl, rfl, rfl, trivial⟩ ?_
           refine nm_thn ?_
           refine ws_condN PolyText_n60 PolyText_n61 rfl rfl rfl rfl (fun hb68 => ?_) (fun hb68 => ?_)
           ·replace hb68 := of_decide_eq_true hb68
            refine ws_region rfl ?_
            refine wlm 0 1 rfl rfl rfl rfl rfl rfl rfl ?_
            refine wlo 1 2 rfl rfl rfl (wo_run rfl rfl (run_addS rfl rfl rfl ((by (try simp only [List.length_append, List.length_cons, List.length_nil]); first | omega | (simp only [lens]; omega)))) ?_)
            refine wla 2 3 rfl rfl rfl rfl rfl rfl rfl ?_
            refine wl_end rfl ?_
            refine nm_blk ?_
            refine nm_sub [(0, _), (3, _), (4, _)] ⟨rfl, rfl, rfl, trivial⟩ ?_
            refine nm_thn ?_
            refine ws_region rfl ?_
            refine wlm 0 1 rfl rfl rfl rfl rfl rfl rfl ?_
            refine wlo 1 2 rfl rfl rfl (wo_run rfl rfl (run_add rfl rfl rfl (by first | omega | (simp only [lens]; omega))) ?_)
            refine wla 2 3 rfl rfl rfl rfl rfl rfl rfl ?_
            refine wl_end rfl ?_
            refine nm_lp ?_
            intro ax_ hax_
            refine ⟨_, ?hq19m, ⟨i + 1, ((s9 ++ ((Lib.decDigits (max ((ga a i).c) (-((ga a i).c))).toNat) ++ ([42] : List UInt8))) ++ ([116] : List UInt8)), rfl, hax_.sub ⟨rfl, rfl, rfl, trivial⟩, S17.pick [] [] (by decide) trivial, ?hq19f0, ?hq19f1⟩⟩
            case hq19f0 => omega
            case hq19f1 => (rw [polT, ← hs9]; (first | rw [sgT_00 (by omega) (by omega)] | rw [sgT_01 (by omega) (by omega)] | rw [sgT_10 (by omega) (by omega)] | rw [sgT_11 (by omega) (by omega)]); (first | rw [bodyT_0 (by omega)] | rw [bodyT_1 (by omega) (by omega)] | rw [bodyT_2 (by omega) (by omega)]); (first | rw [powT_1 (by omega)] | rw [powT_2 (by omega)] | skip); (try unfold numT); all_goals (first | rfl | (simp only [List.append_assoc, List.append_nil, List.nil_append]; done) | (simp only [List.append_assoc, List.append_nil, List.nil_append]; rfl)))
            case hq19m => omega
           ·replace hb68 := of_decide_eq_false hb68
            refine ws_seqN PolyText_n62 PolyText_n63 rfl rfl rfl ?_
            refine ws_region rfl ?_
            refine wlo 0 1 rfl rfl rfl (wo_run rfl rfl (run_fieldAddr rfl rfl Tryd.underlying37 rfl (ce3) (nf3)) ?_)
            refine wlo 1 2 rfl rfl rfl (wo_run rfl rfl (run_load1 rfl rfl Tryd.underlying3 rfl (S17.boxc (i := 0) rfl rfl)) ?_)
            refine wlo 2 3 rfl rfl rfl (wo_run rfl rfl (run_neq rfl rfl rfl) ?_)
            refine wl_end rfl ?_
            refine nm_sub [(0, _), (3, _), (4, _), (5, _), (73, _)] ⟨rfl, rfl, rfl, rfl, rfl, trivial⟩ ?_
            refine nm_thn ?_
            refine ws_condN PolyText_n64 PolyText_n65 rfl rfl rfl rfl (fun hb73 => ?_) (fun hb73 => ?_)
            ·replace hb73 := of_decide_eq_true hb73
             refine ws_region rfl ?_
             refine wlm 0 1 rfl rfl rfl rfl rfl rfl rfl ?_
             refine wlo 1 2 rfl rfl rfl (wo_run rfl rfl (run_addS rfl rfl rfl ((by (try simp only [List.length_append, List.length_cons, List.length_nil]); first | omega | (simp only [lens]; omega)))) ?_)
             refine wlo 2 3 rfl rfl rfl (wo_run rfl rfl (run_fieldAddr rfl rfl Tryd.underlying37 rfl (ce3) (nf3)) ?_)
             refine wlo 3 4 rfl rfl rfl (wo_run rfl rfl (run_load1 rfl rfl Tryd.underlying3 rfl (S17.boxc (i := 0) rfl rfl)) ?_)
             refine wlo 4 5 rfl rfl rfl (wo_cq rfl rfl rfl rfl rfl rfl rfl cf15 S17 (dec_z ((ga a i).e) (by omega) S17.lend) ?_)
             rintro _ w19 S19 rfl; clear S17
             refine wlo 5 6 rfl rfl rfl (wo_run rfl rfl (run_addS rfl rfl rfl ((by (try simp only [List.length_append, List.length_cons, List.length_nil]); first | omega | (simp only [lens]; omega)))) ?_)
             refine wla 6 7 rfl rfl rfl rfl rfl rfl rfl ?_
             refine wl_end rfl ?_
             refine nm_blk ?_
             refine nm_sub [(0, _), (3, _), (4, _)] ⟨rfl, rfl, rfl, trivial⟩ ?_
             refine nm_thn ?_
             refine ws_region rfl ?_
             refine wlm 0 1 rfl rfl rfl rfl rfl rfl rfl ?_
             refine wlo 1 2 rfl rfl rfl (wo_run rfl rfl (run_add rfl rfl rfl (by first | omega | (simp only [lens]; omega))) ?_)
             refine wla 2 3 rfl rfl rfl rfl rfl rfl rfl ?_
             refine wl_end rfl ?_
             refine nm_lp ?_
             intro ax_ hax_
             refine ⟨_, ?hq20m, ⟨i + 1, (((s9 ++ ((Lib.decDigits (max ((ga a i).c) (-((ga a i).c))).toNat) ++ ([42] : List UInt8))) ++ ([116, 94] : List UInt8)) ++ (Lib.itoa ((ga a i).e))), rfl, hax_.sub ⟨rfl, rfl, rfl, trivial⟩, S19.pick [] [] (by decide) trivial, ?hq20f0, ?hq20f1⟩⟩
             case hq20f0 => omega
             case hq20f1 => (rw [polT, ← hs9]; (first | rw [sgT_00 (by omega) (by omega)] | rw [sgT_01 (by omega) (by omega)] | rw [sgT_10 (by omega) (by omega)] | rw [sgT_11 (by omega) (by omega)]); (first | rw [bodyT_0 (by omega)] | rw [bodyT_1 (by omega) (by omega)] | rw [bodyT_2 (by omega) (by omega)]); (first | rw [powT_1 (by omega)] | rw [powT_2 (by omega)] | skip); (try unfold numT); all_goals (first | rfl | (simp only [List.append_assoc, List.append_nil, List.nil_append]; done) | (simp only [List.append_assoc, List.append_nil, List.nil_append]; rfl)))
             case hq20m => omega
            ·replace hb73 := of_decide_eq_false hb73
             exfalso; omega
          ·replace hb60 := of_decide_eq_false hb60
           exfalso; omega
        ·replace hg54 := of_decide_eq_false hg54
         refine wl_no (k := 4) (k' := 5) (d := 55) rfl rfl ⟨_, _, _, rfl, rfl, rfl, rfl⟩ rfl rfl ?_
         refine wl_no (k := 5) (k' := 6) (d := 56) rfl rfl ⟨_, _, _, rfl, rfl, rfl, rfl⟩ rfl rfl ?_
         refine wlo 6 7 rfl rfl rfl (wo_run rfl rfl (run_pickF rfl rfl rfl) ?_)
         refine wl_end rfl ?_
         refine nm_sub [(0, _), (3, _), (4, _), (5, _), (6, _), (57, _)] ⟨rfl, rfl, rfl, rfl, rfl, rfl, trivial⟩ ?_
         refine nm_thn ?_
         refine ws_condFN PolyText_n55 rfl rfl rfl ?_
         refine ws_seqN PolyText_n66 PolyText_n67 rfl rfl rfl ?_
         refine ws_region rfl ?_
         refine wlo 0 1 rfl rfl rfl (wo_run rfl rfl (run_fieldAddr rfl rfl Tryd.underlying37 rfl (ce3) (nf3)) ?_)
         refine wlo 1 2 rfl rfl rfl (wo_run rfl rfl (run_load1 rfl rfl Tryd.underlying3 rfl (S17.boxc (i := 0) rfl rfl)) ?_)
         refine wlo 2 3 rfl rfl rfl (wo_run rfl rfl (run_neq rfl rfl rfl) ?_)
         refine wl_end rfl ?_
         refine nm_sub [(0, _), (3, _), (4, _), (5, _), (6, _), (60, _)] ⟨rfl, rfl, rfl, rfl, rfl, rfl, trivial⟩ ?_
         refine nm_thn ?_
         refine ws_condN PolyText_n68 PolyText_n69 rfl rfl rfl rfl (fun hb60 => ?_) (fun hb60 => ?_)
         ·replace hb60 := of_decide_eq_true hb60
          exfalso; omega
         ·replace hb60 := of_decide_eq_false hb60
          refine ws_skip rfl ?_
          refine nm_sub [(0, _), (3, _), (4, _), (5, _), (6, _)] ⟨rfl, rfl, rfl, rfl, rfl, trivial⟩ ?_
          refine nm_thn ?_
          refine ws_seqN PolyText_n56 PolyText_n57 rfl rfl rfl ?_
          refine ws_region rfl ?_
          refine wlm 0 1 rfl rfl rfl rfl rfl rfl rfl ?_
          refine wlm 1 2 rfl rfl rfl rfl rfl rfl rfl ?_
          refine wlo 2 3 rfl rfl rfl (wo_run rfl rfl (run_addS rfl rfl rfl ((by (try simp only [List.length_append, List.length_cons, List.length_nil]); first | omega | (simp only [lens]; omega)))) ?_)
          refine wla 3 4 rfl rfl rfl rfl rfl rfl rfl ?_
          refine wl_end rfl ?_
          refine nm_sub [(0, _), (3, _), (4, _), (5, _)] ⟨rfl, rfl, rfl, rfl, trivial⟩ ?_
          refine nm_thn ?_
          refine ws_seqN PolyText_n58 PolyText_n59 rfl rfl rfl ?_
          refine ws_region rfl ?_
          refine wlo 0 1 rfl rfl rfl (wo_run rfl rfl (run_fieldAddr rfl rfl Tryd.underlying37 rfl (ce3) (nf3)) ?_)
          refine wlo 1 2 rfl rfl rfl (wo_run rfl rfl (run_load1 rfl rfl Tryd.underlying3 rfl (S17.boxc (i := 0) rfl rfl)) ?_)
          refine wlo 2 3 rfl rfl rfl (wo_run rfl rfl (run_eql rfl rfl rfl) ?_)
          refine wl_end rfl ?_
          refine nm_sub [(0, _), (3, _), (4, _), (5, _), (68, _)] ⟨rfl, rfl, rfl, rfl, rfl, trivial⟩ ?_
          refine nm_thn ?_
          refine ws_condN PolyText_n60 PolyText_n61 rfl rfl rfl rfl (fun hb68 => ?_) (fun hb68 => ?_)
          ·replace hb68 := of_decide_eq_true hb68
           exfalso; omega
          ·replace hb68 := of_decide_eq_false hb68
           refine ws_seqN PolyText_n62 PolyText_n63 rfl rfl rfl ?_
           refine ws_region rfl ?_
           refine wlo 0 1 rfl rfl rfl (wo_run rfl rfl (run_fieldAddr rfl rfl Tryd.underlying37 rfl (ce3) (nf3)) ?_)
           refine wlo 1 2 rfl rfl rfl (wo_run rfl rfl (run_load1 rfl rfl Tryd.underlying3 rfl (S17.boxc (i := 0) rfl rfl)) ?_)
           refine wlo 2 3 rfl rfl rfl (wo_run rfl rfl (run_neq rfl rfl rfl) ?_)
           refine wl_end rfl ?_
           refine nm_sub [(0, _), (3, _), (4, _), (5, _), (73, _)] ⟨rfl, rfl, rfl, rfl, rfl, trivial⟩ ?_
           refine nm_thn ?_
           refine ws_condN PolyText_n64 PolyText_n65 rfl rfl rfl rfl (fun hb73 => ?_) (fun hb73 => ?_)
           ·replace hb73 := of_decide_eq_true hb73
            exfalso; omega
           ·replace hb73 := of_decide_eq_false hb73
            refine ws_skip rfl ?_
            refine nm_blk ?_
            refine nm_sub [(0, _), (3, _), (4, _)] ⟨rfl, rfl, rfl, trivial⟩ ?_
            refine nm_thn ?_
            refine ws_region rfl ?_
            refine wlm 0 1 rfl rfl rfl rfl rfl rfl rfl ?_
            refine wlo 1 2 rfl rfl rfl (wo_run rfl rfl (run_add rfl rfl rfl (by first | omega | (simp only [lens]; omega))) ?_)
            refine wla 2 3 rfl rfl rfl rfl rfl rfl rfl ?_
            refine wl_end rfl ?_
            refine nm_lp ?_
            intro ax_ hax_
            refine ⟨_, ?hq21m, ⟨i + 1, (s9 ++ (Lib.decDigits (max ((ga a i).c) (-((ga a i).c))).toNat)), rfl, hax_.sub ⟨rfl, rfl, rfl, trivial⟩, S17.pick [] [] (by decide) trivial, ?hq21f0, ?hq21f1⟩⟩
            case hq21f0 => omega
            case hq21f1 => (rw [polT, ← hs9]; (first | rw [sgT_00 (by omega) (by omega)] | rw [sgT_01 (by omega) (by omega)] | rw [sgT_10 (by omega) (by omega)] | rw [sgT_11 (by omega) (by omega)]); (first | rw [bodyT_0 (by omega)] | rw [bodyT_1 (by omega) (by omega)] | rw [bodyT_2 (by omega) (by omega)]); (first | rw [powT_1 (by omega)] | rw [powT_2 (by omega)] | skip); (try unfold numT); all_goals (first | rfl | (simp only [List.append_assoc, List.append_nil, List.nil_append]; done) | (simp only [List.append_assoc, List.append_nil, List.nil_append]; rfl)))
            case hq21m => omega
      ·replace hg41 := of_decide_eq_false hg41
       exfalso; omega
   ·replace hb13 := of_decide_eq_false hb13
    refine ws_exit rfl rfl ?_
    refine nm_sub [(3, _)] ⟨rfl, trivial⟩ ?_
    refine nm_thn ?_
    refine ws_seqN PolyText_n70 PolyText_n71 rfl rfl rfl ?_
    refine ws_region rfl ?_
    refine wlm 0 1 rfl rfl rfl rfl rfl rfl rfl ?_
    refine wla 1 2 rfl rfl rfl rfl rfl rfl rfl ?_
    refine wl_end rfl ?_
    refine nm_sub [(2, _)] ⟨rfl, trivial⟩ ?_
    refine nm_thn ?_
    refine ws_ret hC [_] rfl rfl ⟨rfl, trivial⟩ ?_
    exact ⟨_, rfl, (S1.pick [] [] (by decide) trivial), (by unfold texT; rw [if_neg (by omega), show a.length = i by omega, ← hs9]; rfl)⟩
end Go.Proofs.YtakmjhkgilijiaaDoor
namespace Go.Proofs.YtakmjhkgilijiaaDoor
open Go.ChangeShapes Go.WideShapes Go.ChangeAt Go.RowKit
noncomputable def PolyTexts_n0 : Code := Tryd.f3.body.getD .skip
noncomputable def PolyTexts_n1 : Code := cL PolyTexts_n0
noncomputable def PolyTexts_n2 : Code := cR PolyTexts_n0
noncomputable def PolyTexts_n3 : Code := cL PolyTexts_n2
noncomputable def PolyTexts_n4 : Code := cR PolyTexts_n2
noncomputable def PolyTexts_n5 : Code := cL PolyTexts_n4
noncomputable def PolyTexts_n6 : Code := cR PolyTexts_n4
noncomputable def PolyTexts_n7 : Code := cL PolyTexts_n5
noncomputable def PolyTexts_n8 : Code := cR PolyTexts_n5
noncomputable def PolyTexts_n9 : Code := cL PolyTexts_n8
noncomputable def PolyTexts_n10 : Code := cR PolyTexts_n8
noncomputable def PolyTexts_n11 : Code := cL PolyTexts_n9
noncomputable def PolyTexts_n12 : Code := cR PolyTexts_n9
noncomputable def PolyTexts_n13 : Code := cL PolyTexts_n6
noncomputable def PolyTexts_n14 : Code := cR PolyTexts_n6
set_option maxRecDepth 10000 in
theorem PolyTexts_t {w : World} {M : Hp} {X : Fr} (a : List Tm) {aA : Option Addr} {ac : Nat} (ha : RdA cdTm M aA ac a) (htb : TabU (M.un X.h)) (S : SH w M X []) : Ct Tryd.prog 3 [.slice aA a.length ac] w M X (fun u _ => u = .bool true) := by
 unfold Ct
 have rmha : a.length * 16 ≤ 140737488355328 := ha.room
 refine calls_in (b := PolyTexts_n0) Tryd.func3 rfl Tryd.ntmps3 rfl (fun C hC => ?_)
 refine ws_sub [(0, _)] ⟨rfl, trivial⟩ ?_
 refine ws_seqN PolyTexts_n1 PolyTexts_n2 rfl rfl rfl ?_
 refine ws_region rfl ?_
 refine wla 0 1 rfl rfl rfl rfl rfl rfl rfl ?_
 refine wl_end rfl ?_
 refine nm_sub [(0, _)] ⟨rfl, trivial⟩ ?_
 refine nm_thn ?_
 refine ws_seqN PolyTexts_n3 PolyTexts_n4 rfl rfl rfl ?_
 refine ws_region rfl ?_
 refine wlm 0 1 rfl rfl rfl rfl rfl rfl rfl ?_
 refine wlo 1 2 rfl rfl rfl (wo_ct rfl rfl rfl rfl rfl rfl rfl cf6 S (terms_t a (ha.mono (Hp.le_un _ _)) S.lend) ?_)
 intro vw1 w1 M1 hle1 S1 hRw1; clear S
 replace ha := ha.mono hle1
 replace htb := htb.mono (Hp.un_mono hle1 S1.mx)
 obtain ⟨A1, c1, rfl, hr1⟩ := hRw1
 refine wlo 2 3 rfl rfl rfl (wo_cq rfl rfl rfl rfl rfl rfl rfl cf5 S1 (Text_q a (hr1.mono (Hp.le_un _ _)) (htb.mono S1.un_XH) S1.lend) ?_)
 rintro _ w2 S2 rfl; clear S1
 refine wlm 3 4 rfl rfl rfl rfl rfl rfl rfl ?_
 refine wlo 4 5 rfl rfl rfl (wo_run rfl rfl (run_extract rfl rfl rfl) ?_)
 refine wlo 5 6 rfl rfl rfl (wo_run rfl rfl (run_extract rfl rfl rfl) ?_)
 refine wla 6 7 rfl rfl rfl rfl rfl rfl rfl ?_
 refine wla 7 8 rfl rfl rfl rfl rfl rfl rfl ?_
 refine wl_end rfl ?_
 refine nm_sub [(0, _), (3, _), (4, _)] ⟨rfl, rfl, rfl, trivial⟩ ?_
 refine nm_thn ?_
 refine ws_seqN PolyTexts_n5 PolyTexts_n6 rfl rfl rfl ?_
 refine ws_seqN PolyTexts_n7 PolyTexts_n8 rfl rfl rfl ?_
 refine ws_region rfl ?_
 refine wlm 0 1 rfl rfl rfl rfl rfl rfl rfl ?_
 refine wlo 1 2 rfl rfl rfl (wo_cq rfl rfl rfl rfl rfl rfl rfl cf7 S2 (PolyMay_q a (ha.mono (Hp.le_un _ _)) S2.lend) ?_)
 rintro _ w3 S3 rfl; clear S2
 refine wlo 2 3 rfl rfl rfl (wo_run rfl rfl (run_not rfl rfl) ?_)
 refine wl_end rfl ?_
 refine nm_sub [(0, _), (3, _), (4, _), (13, _)] ⟨rfl, rfl, rfl, rfl, trivial⟩ ?_
 refine nm_thn ?_
 refine ws_condN PolyTexts_n9 PolyTexts_n10 rfl rfl rfl rfl (fun hb13 => ?_) (fun hb13 => ?_)
 ·simp only [Bool.and_eq_true, Bool.or_eq_true, Bool.and_eq_false_iff, Bool.or_eq_false_iff, decide_eq_true_eq, decide_eq_false_iff_not, Bool.not_eq_true', Bool.not_eq_false'] at hb13
  have hm9 : mayT a = false := by simpa using hb13
  have e1 : errP a = 1 := by unfold errP; rw [if_neg (by rw [hm9]; decide)]
  have e2 : txP a = [] := by unfold txP; rw [if_neg (by rw [hm9]; decide)]
  refine ws_seqN PolyTexts_n11 PolyTexts_n12 rfl rfl rfl ?_
  refine ws_region rfl ?_
  refine wlm 0 1 rfl rfl rfl rfl rfl rfl rfl ?_
  refine wlo 1 2 rfl rfl rfl (wo_run rfl rfl (run_eql rfl rfl rfl) ?_)
  refine wlm 2 3 rfl rfl rfl rfl rfl rfl rfl ?_
  refine wl_split (t := 16) rfl (fun hg16 => ?_) (fun hg16 => ?_)
  ·replace hg16 := of_decide_eq_true hg16
   refine wl_opG (k := 3) (k' := 4) rfl rfl ⟨_, _, _, rfl, rfl, rfl, rfl⟩ rfl (wo_run rfl rfl (run_move rfl rfl) ?_)
   refine wl_opG (k := 4) (k' := 5) rfl rfl ⟨_, _, _, rfl, rfl, rfl, rfl⟩ rfl (wo_run rfl rfl (run_eqlS rfl rfl rfl (e2)) ?_)
   refine wlo 5 6 rfl rfl rfl (wo_run rfl rfl (run_pickT rfl rfl rfl) ?_)
   refine wla 6 7 rfl rfl rfl rfl rfl rfl rfl ?_
   refine wl_end rfl ?_
   refine nm_sub [(2, _)] ⟨rfl, trivial⟩ ?_
   refine nm_thn ?_
   refine ws_ret hC [_] rfl rfl ⟨rfl, trivial⟩ ?_
   refine ⟨_, rfl, _, hle1, (S3.pick [] [] (by decide) trivial), ?_⟩
   show Value.bool _ = _
   refine congrArg Value.bool ?_
   first | rfl | (rw [decide_eq_true_iff]; omega) | (simp_all; done)
  ·replace hg16 := of_decide_eq_false hg16
   exfalso; omega
 ·simp only [Bool.and_eq_true, Bool.or_eq_true, Bool.and_eq_false_iff, Bool.or_eq_false_iff, decide_eq_true_eq, decide_eq_false_iff_not, Bool.not_eq_true', Bool.not_eq_false'] at hb13
  have hm9 : mayT a = true := by simpa using hb13
  obtain ⟨hal, hok⟩ := mayT_may hm9
  have e1 : errP a = 0 := by unfold errP; rw [if_pos hm9]
  have e2 : txP a = texT a := by unfold txP; rw [if_pos hm9]
  refine ws_skip rfl ?_
  refine nm_sub [(0, _), (3, _), (4, _)] ⟨rfl, rfl, rfl, trivial⟩ ?_
  refine nm_thn ?_
  refine ws_seqN PolyTexts_n13 PolyTexts_n14 rfl rfl rfl ?_
  refine ws_region rfl ?_
  refine wlm 0 1 rfl rfl rfl rfl rfl rfl rfl ?_
  refine wlo 1 2 rfl rfl rfl (wo_run rfl rfl (run_eql rfl rfl rfl) ?_)
  refine wlm 2 3 rfl rfl rfl rfl rfl rfl rfl ?_
  refine wl_split (t := 22) rfl (fun hg22 => ?_) (fun hg22 => ?_)
  ·replace hg22 := of_decide_eq_true hg22
   refine wl_opG (k := 3) (k' := 4) rfl rfl ⟨_, _, _, rfl, rfl, rfl, rfl⟩ rfl (wo_run rfl rfl (run_move rfl rfl) ?_)
   refine wl_opG (k := 4) (k' := 5) rfl rfl ⟨_, _, _, rfl, rfl, rfl, rfl⟩ rfl (wo_run rfl rfl (run_move rfl rfl) ?_)
   refine wl_opG (k := 5) (k' := 6) rfl rfl ⟨_, _, _, rfl, rfl, rfl, rfl⟩ rfl (wo_cq rfl rfl rfl rfl rfl rfl rfl cf8 S3 (PolyText_q a (ha.mono (Hp.le_un _ _)) (hok) (hal) S3.lend) ?_)
   rintro _ w4 S4 rfl; clear S3
   refine wl_opG (k := 6) (k' := 7) rfl rfl ⟨_, _, _, rfl, rfl, rfl, rfl⟩ rfl (wo_run rfl rfl (run_eqlS rfl rfl rfl (e2)) ?_)
   refine wlo 7 8 rfl rfl rfl (wo_run rfl rfl (run_pickT rfl rfl rfl) ?_)
   refine wla 8 9 rfl rfl rfl rfl rfl rfl rfl ?_
   refine wl_end rfl ?_
   refine nm_sub [(2, _)] ⟨rfl, trivial⟩ ?_
   refine nm_thn ?_
   refine ws_ret hC [_] rfl rfl ⟨rfl, trivial⟩ ?_
   refine ⟨_, rfl, _, hle1, (S4.pick [] [] (by decide) trivial), ?_⟩
   show Value.bool _ = _
   refine congrArg Value.bool ?_
   first | rfl | (rw [decide_eq_true_iff]; omega) | (simp_all; done)
  ·replace hg22 := of_decide_eq_false hg22
   exfalso; omega
end Go.Proofs.YtakmjhkgilijiaaDoor
namespace Go.Proofs.YtakmjhkgilijiaaDoor
open Go.ChangeShapes Go.WideShapes Go.ChangeAt Go.RowKit
theorem law_lift_laidZ {H : Type} {enc : TypeId × Value → H} {C : Checked} {os : Os} {f : FuncId} {fn : Func} {s : ChangeSpec} {tb : TypeId} {Z : World → Prop} (hZ : ∀ w w' : World, w.heap = w'.heap → Z w → Z w')
    (own : ownKnob C.prog.godebug = none) (started : os.Started) (noInit : C.prog.inits.idxOf? f = none) (hfn : C.prog.funcs[f]? = some fn)
    (witness : ∃ (w : World) (tape : Tape) (i : Input), w.os = os ∧ (w.forCall tape i).Shaped C.prog ∧ i.vars = [] ∧ Input.okWide C.prog (w.forCall tape i) .any w.heap.size f i ∧
      ((s.pre enc C.prog fn [] false (w.forCall tape i).memory i.args ∧ Z (w.forCall tape i).memory) ∧ sizedMet enc C.prog fn (OpenSpec.ofChange s) false (w.forCall tape i).memory i.args) ∧ ({} : Assume).holds C.prog (lone (Frame.enter C.prog f i.args .normal) [] (w.forCall tape i)))
    (hvars : s.vars = []) (hl : laidOutB C.prog = true) (hps : (fn.params.toList.all fun t => C.prog.readableRec t && decide (t < C.prog.types.size)) = true)
    (hres : fn.resultTypes = #[tb]) (htb : C.prog.underlying tb = some .bool)
    (hspec : ∀ ds : List (DataW H), ds.length = fn.params.toList.length → s.fn H (ds ++ []) = { results := [.lit (.bool true)], args := ds })
    (hlaw : ∀ (W : World) (base : Nat) (args : Array Value) (ds : List (DataW H)) (p : List MemPlace),
      (∀ (j : Nat) t v, fn.params[j]? = some t → args[j]? = some v → Value.okWide C.prog W .any base t v) →
      DataW.TrodAll enc C.prog W 0 (fun _ => true) true fn.params.toList args.toList ds p → W.noneFrozen p → (∀ x ∈ p, x.block < W.heap.size) →
      (DataW.weightsEach C.prog fn.params.toList ds).all (· ≤ reachBytes) = true → Z W →
      Calls C.prog f args W fun e W' => e = .returned (.bool true) ∧ Below W.heap.size W W') :
    ReturnsInHanded {} C os f .any (fun w args => (s.pre enc C.prog fn [] false w args ∧ Z w) ∧ sizedMet enc C.prog fn (OpenSpec.ofChange s) false w args) (s.post enc C.prog fn false true false false) := by
  refine returnsInHanded_of_change_and (conds := []) (X := fun w _ => Z w) (fun w w' _ h hx => hZ w w' h hx) own started noInit hfn witness ?_
  intro W base args ds gs before hval hW _ hsz hzw _
  have hW' := hW
  obtain ⟨p, q, hA, hV, rfl, hfz, _⟩ := hW
  rw [hvars] at hV
  have hgs : gs = [] ∧ q = [] := by cases gs with
    | nil => exact ⟨rfl, hV⟩
    | cons g gs => exact hV.elim
  obtain ⟨rfl, rfl⟩ := hgs
  have hvt : s.plain.varTypes C.prog = [] := by simp [DataSpec.varTypes, ChangeSpec.plain, hvars]
  rw [hvt, List.append_nil, List.append_nil] at hsz
  have hlt : ∀ x ∈ p, x.block < W.heap.size := fun x hx => hW'.lt x (by simp [hx])
  refine (hlaw W base args ds p hval hA (fun b off hm => hfz b off (by simp [hm])) hlt hsz hzw).mono ?_
  rintro e W' ⟨rfl, hb⟩
  have hps' : ∀ t ∈ fn.params.toList, C.prog.readableRec t = true ∧ t < C.prog.types.size := by
    intro t ht
    have := List.all_eq_true.1 hps t ht
    simpa using this
  refine ⟨_, rfl, ds, [], _, [], p, [], hW', ?_, ?_, ?_, hb.frame _, fun h => by cases h⟩
  · rw [hspec ds (trodAll_length _ _ _ _ hA), hres]
    exact trodAll_mk1 (shut_bool htb true)
  · rw [hspec ds (trodAll_length _ _ _ _ hA)]
    exact trodAll_below hl hb _ _ _ _ hps' hA hlt
  · rw [hspec ds (trodAll_length _ _ _ _ hA), hvars]
    rfl
end Go.Proofs.YtakmjhkgilijiaaDoor
namespace Go.Proofs.YtakmjhkgilijiaaDoor
open Go.ChangeShapes Go.WideShapes Go.ChangeAt Go.RowKit Go.Joins Go.Deep
theorem weightsAll_mem {H : Type} {P : Program} {e : TypeId} {d : DataW H} {n : Nat} : ∀ {ds : List (DataW H)}, d ∈ ds → n ∈ d.weights P e → n ∈ DataW.weightsAll P e ds
  | d0 :: ds, hd, hn => by
    simp only [DataW.weightsAll, List.mem_append]
    rcases List.mem_cons.1 hd with rfl | hd
    · exact .inl hn
    · exact .inr (weightsAll_mem hd hn)
def Light {H : Type} (P : Program) (T : TypeId) (d : DataW H) : Prop := ∀ n ∈ d.weights P T, n ≤ reachBytes
/-- What is read of type T is one x of C, of which ok is true. -/
def Rdr {H : Type} (P : Program) (w : World) (enc : TypeId × Value → H) (T : TypeId) {α : Type} (C : Cd α) (ok : α → Prop) : Prop :=
  ∀ n cs d pl, DataW.trod enc P w 0 (fun _ => true) true n T cs = some (d, pl) → Light P T d → ∃ x, (∀ j u, j < C.k → (C.f x)[j]? = some u → cs[j]? = some u) ∧ ok x
def wfI (x : Int) : Prop := -9223372036854775808 ≤ x ∧ x ≤ 9223372036854775807
theorem wfI_of {x : Int} (h : (Lit.int .i64 x).wf = true) : wfI x := by
  simpa [Lit.wf, IntKind.min, IntKind.max, IntKind.signed, IntKind.bits, wfI] using h
def SlOk {α : Type} (C : Cd α) (w : World) (ok : α → Prop) (s : SlV) : Prop := ∃ ys : List α, s.n = ys.length ∧ RdA C (hp w) s.A s.c ys ∧ ∀ y ∈ ys, ok y
theorem drop_take1 {l : List Value} {j : Nat} {u : Value} (h : (l.drop j).take 1 = [u]) : l[j]? = some u := by
  have := congrArg (fun z => z[0]?) h
  simpa [List.getElem?_take, List.getElem?_drop] using this
section
variable {H : Type} {enc : TypeId × Value → H} {P : Program} {w : World} {T : TypeId}
/-- A field that is a number, or a Bool. -/
theorem fld_int {n j : Nat} {cs : List Value} {y : DataW H × List MemPlace} (hu : P.underlying T = some (.int .i64)) (hc : P.cellsOf T = 1) (h : DataW.trod enc P w 0 (fun _ => true) true n T ((cs.drop j).take (P.cellsOf T)) = some y) : ∃ a, cs[j]? = some (.int .i64 a) ∧ wfI a := by
  obtain ⟨a, e, _, hw⟩ := DataW.trod_int hu h
  rw [hc] at e
  exact ⟨a, drop_take1 e, wfI_of hw⟩
theorem rdr_slice {α : Type} [Inhabited α] {C : Cd α} {ok : α → Prop} (hu : P.underlying T = some (.slice C.E)) (hk : P.cellsOf C.E = C.k) (hb : P.bytesOf C.E = C.u8) (hk0 : 0 < C.k) (hr : Rdr P w enc C.E C ok) : Rdr P w enc T (cdV T) (SlOk C w ok) := fun n cs d pl h hl => by
  rcases open_slice hu h with ⟨rfl, hx⟩ | ⟨a, len, cap, m, n', D, Pl, rfl, _, hle, hm, hmm, hx, hi⟩
  · exact ⟨⟨none, 0, 0⟩, fun j u _ hu => hu, [], rfl, RdA.nil_, fun y hy => by cases hy⟩
  · simp only [if_true] at hmm
    subst hmm
    simp only [Prod.mk.injEq] at hx
    obtain ⟨rfl, _⟩ := hx
    have hwt : ∀ n ∈ (len + (m - len)) * P.bytesOf C.E :: (DataW.weightsAll P C.E ((List.range len).map D) ++ DataW.weightsAll P C.E ((List.range (m - len)).map fun j => D (len + j))), n ≤ reachBytes := by
      have := hl
      unfold Light at this
      simp only [DataW.weights, hu, List.length_map, List.length_range] at this
      exact this
    have hsz := hwt _ (List.mem_cons_self ..)
    rw [hb] at hsz
    simp only [reachBytes] at hsz
    have hL : len * C.u8 ≤ 140737488355328 := Nat.le_trans (Nat.mul_le_mul_right _ (show len ≤ len + (m - len) by omega)) (by omega)
    obtain ⟨F, hF⟩ := choose_lt (α := α) (n := len) (p := fun i x => (∀ j u, j < C.k → (C.f x)[j]? = some u → w.cell? (a.add (i * C.k + j)) = some u) ∧ ok x) (fun i hil => by
      obtain ⟨cs', hc, ht⟩ := hi i (by omega)
      rw [hk] at hc
      obtain ⟨x, hx, hok⟩ := hr n' cs' (D i) (Pl i) ht (fun q hq => hwt q (List.mem_cons_of_mem _ (List.mem_append_left _ (weightsAll_mem (List.mem_map.2 ⟨i, List.mem_range.2 hil, rfl⟩) hq))))
      obtain ⟨_, hcl, hat⟩ := World.cells?_some hc
      refine ⟨x, fun j u hj hu => ?_, hok⟩
      rw [← Go.Deep.add_add, hat j hj]
      exact hx j u hj hu)
    have hlen : ((List.range len).map F).length = len := by simp
    refine ⟨⟨some a, len, m⟩, fun j u _ hu => hu, (List.range len).map F, by rw [hlen], ⟨by rw [hlen]; exact hle, by rw [hlen]; exact hL, fun h0 => ?_⟩, fun y hy => ?_⟩
    · rw [hlen] at h0
      have hcell : ∀ j u, (((List.range len).map F).flatMap C.f)[j]? = some u → w.cell? (a.add j) = some u := fun j u hju => by
        have hjl : j < len * C.k := by
          have := (List.getElem?_eq_some_iff.1 hju).1
          rwa [flat_len C.hf, hlen] at this
        have h1 : j / C.k < len := (Nat.div_lt_iff_lt_mul hk0).2 hjl
        have h2 : j % C.k < C.k := Nat.mod_lt _ hk0
        have em : j / C.k * C.k + j % C.k = j := by rw [Nat.mul_comm]; exact Nat.div_add_mod j C.k
        have g1 := flat_get C.hf (xs := (List.range len).map F) (i := j / C.k) (by rw [hlen]; exact h1) h2
        rw [em, hju] at g1
        have := (hF (j / C.k) h1).1 (j % C.k) u h2 (by rw [g1]; simp)
        rwa [em] at this
      have hlen0 : 0 < (((List.range len).map F).flatMap C.f).length := by rw [flat_len C.hf, hlen]; exact Nat.mul_pos h0 hk0
      have hc0 := hcell 0 _ (List.getElem?_eq_getElem hlen0)
      obtain ⟨b, off, spot⟩ := a
      have hspot : spot = none := by simpa [Addr.add] using World.cell?_spot hc0
      subst hspot
      refine ⟨rfl, ?_⟩
      have hadd : ∀ j, (⟨b, off, none⟩ : Addr).add j = ⟨b, off + j, none⟩ := fun j => by
        unfold Addr.add
        split
        · rename_i e; rw [e]; rfl
        · rfl
      rw [hadd] at hc0
      unfold World.cell? at hc0
      split at hc0
      · rename_i cs T' fz hb'
        refine ⟨cs, T', fz, hb', fun j u hju => ?_⟩
        have := hcell j u hju
        rw [hadd, cell_of_row w b _ cs T' fz hb'] at this
        exact this
      · cases hc0
    · obtain ⟨i, hi', rfl⟩ := List.mem_map.1 hy
      exact (hF i (List.mem_range.1 hi')).2
theorem open_sl {α : Type} [Inhabited α] {C : Cd α} {ok : α → Prop} {v : Value} {d : DataW H} {p : List MemPlace} (hu : P.underlying T = some (.slice C.E)) (hk : P.cellsOf C.E = C.k) (hb : P.bytesOf C.E = C.u8) (hk0 : 0 < C.k) (hr : Rdr P w enc C.E C ok)
    {b0 : Nat} (hv : Value.okWide P w .any b0 T v) (h : DataW.Trod enc P w 0 (fun _ => true) true T v d p) {ts : List TypeId} {ds : List (DataW H)} (hsz : (DataW.weightsEach P ts ds).all (· ≤ reachBytes) = true) {j : Nat} (hj : ts[j]? = some T) (hd : ds[j]? = some d) :
    ∃ A c xs, v = .slice A xs.length c ∧ RdA C (hp w) A c xs ∧ ∀ x ∈ xs, ok x := by
  obtain ⟨a0, len, cap, rfl⟩ := okWide_slice hu hv
  obtain ⟨fuel, hf⟩ := h
  have hl : Light P T d := fun n hn => by simpa using List.all_eq_true.1 hsz n (DataW.weights_mem_each hj hd n hn)
  obtain ⟨s, hs, ys, hn, hr, hy⟩ := rdr_slice hu hk hb hk0 hr fuel _ d p hf hl
  have := hs 0 _ Nat.one_pos rfl
  simp only [Value.cells] at this
  have e : (Value.slice a0 len cap) = .slice s.A s.n s.c := by simpa using this
  exact ⟨s.A, s.c, ys, by rw [e, hn], hr, hy⟩
end
end Go.Proofs.YtakmjhkgilijiaaDoor
namespace Go.Proofs.YtakmjhkgilijiaaDoor
open Go.ChangeShapes Go.WideShapes Go.ChangeAt Go.RowKit
section
variable {H : Type} {enc : TypeId × Value → H} {w : World}
set_option maxRecDepth 100000 in
theorem rdr_tm : Rdr Tryd.prog w enc 37 cdTm (fun _ => True) := fun n cs d pl h _ => by
  obtain ⟨xs, k, _, _, _, hl, hf⟩ := DataW.trod_struct Tryd.underlying37 h
  match xs, hl with
  | [y0, y1], _ =>
    have g0 := hf 0 _ rfl
    have g1 := hf 1 _ rfl
    obtain ⟨n0, e0, _⟩ := fld_int (j := 0) (y := y0) Tryd.underlying3 (by kernel_rfl) g0
    obtain ⟨n1, e1, _⟩ := fld_int (j := 1) (y := y1) Tryd.underlying3 (by kernel_rfl) g1
    refine ⟨⟨n0, n1⟩, fun j u hj hu => ?_, trivial⟩
    have hj2 : j < 2 := hj
    match j, hj2 with
    | 0, _ => injection hu with hu; subst hu; exact e0
    | 1, _ => injection hu with hu; subst hu; exact e1
end
theorem gPow : Tryd.prog.globalNamed "internal/strconv.uint64pow10" = some 0 := by kernel_rfl
theorem tPow : (Tryd.prog.globals[0]?).map (·.type) = some 84 := by kernel_rfl
theorem pow_tab {H : Type} : (Rows.laid_internal_strconv_uint64pow10 : DataW H) = Lib.tabData .u64 Lib.pow10Tab := by rfl
theorem tab_of {W : World} (h : laidMetH Tryd.prog laidS W) : Lib.TabIs Tryd.prog W "internal/strconv.uint64pow10" .u64 Lib.pow10Tab := by
  rw [MakeChecks.laidMetH_plain _ _ _ (by kernel_rfl)] at h
  obtain ⟨ps, ⟨g0, t0, cs0, f0, p0, q0, hg0, ht0, hv0, hd0, ⟨g1, t1, cs1, f1, p1, q1, hg1, ht1, hv1, hd1, ⟨g2, t2, cs2, f2, p2, q2, hg2, ht2, hv2, hd2, _, _⟩, _⟩, _⟩, _⟩ := h
  obtain rfl := Option.some.inj (gPow.symm.trans hg2)
  obtain rfl := Option.some.inj (tPow.symm.trans ht2)
  rw [pow_tab] at hd2
  unfold Lib.TabIs
  rw [hv2, ← Lib.cells_of_tab Tryd.underlying84 Tryd.underlying74 (by kernel_rfl) (by kernel_rfl) hd2]
theorem lawPolyTexts (x0 : List Tm) {A0 : Option Addr} {c0 : Nat} (W : World) (h0 : RdA cdTm (hp W) A0 c0 x0) (hT : Lib.TabIs Tryd.prog W "internal/strconv.uint64pow10" .u64 Lib.pow10Tab) :
    Calls Tryd.prog 3 #[.slice A0 x0.length c0] W fun e W' => e = .returned (.bool true) ∧ Below W.heap.size W W' :=
  law_of_ct (PolyTexts_t x0 h0 ((TabU.start hT).mono (Hp.le_un _ _)) (SH.start W))
theorem door_met (os : Os) (args : Array Value) : laidMetH Tryd.prog laidS ((World.doorLaid Tryd.prog 400 os).forCall (fun _ _ => 0) ⟨#[], args, []⟩).memory :=
  laidMetH_of_parts3 (fuel := 8) (laidMet_of_run' 8 (by kernel_rfl) (by kernel_rfl)) (by kernel_rfl) (by kernel_rfl)
set_option maxRecDepth 100000 in
theorem polyTexts_lifted (os : Os) (started : os.Started) (H : Type) (enc : TypeId × Value → H) :
    ReturnsInHanded {} Tryd.checked os 3 .any (fun w args => (Rows.polyTextsSpec.pre enc Tryd.prog Tryd.f3 [] false w args ∧ laidMetH Tryd.prog laidS w) ∧ sizedMet enc Tryd.prog Tryd.f3 (OpenSpec.ofChange Rows.polyTextsSpec) false w args)
      (Rows.polyTextsSpec.post enc Tryd.prog Tryd.f3 false true false false) := by
  refine law_lift_laidZ (C := Tryd.checked) (tb := 4) (Z := laidMetH Tryd.prog laidS) (fun _ _ hh h => h.of_heap hh) (by kernel_rfl) started (by kernel_rfl) Tryd.func3
    (ChangeSpec.witness_shaped (enc := enc) (C := Tryd.checked) (os := os) (X := fun w _ => laidMetH Tryd.prog laidS w) false (World.doorLaid Tryd.prog 400 os) #[.slice none 0 0] 8 rfl (World.shaped_of_RefB (by kernel_rfl) (by kernel_rfl)) (by kernel_rfl) (by kernel_rfl) (by kernel_rfl) (door_met os _))
    rfl (by kernel_rfl) (by kernel_rfl) rfl Tryd.underlying4 ?_ ?_
  · intro ds hds
    match ds, hds with
    | [d0], _ => rfl
  · intro W base args ds p hval hA _ hlt hsz hzw
    rw [Tryd.params3] at hA hval hsz
    obtain ⟨v0, vs0, d0, ds0, p0, q0, hargs, rfl, rfl, h0, r0⟩ := trodAll_cons hA
    obtain ⟨rfl, rfl, rfl⟩ := trodAll_nil r0
    obtain rfl : args = #[v0] := by cases args; simp_all
    obtain ⟨A0, c0, xs0, rfl, g0, _⟩ := open_sl (C := cdTm) Tryd.underlying22 (by kernel_rfl) (by kernel_rfl) (by decide) rdr_tm (hval 0 22 v0 rfl rfl) h0 hsz (j := 0) rfl rfl
    exact lawPolyTexts xs0 W g0 (tab_of hzw)
theorem polyTexts_row : Rows.PolyTextsSaid :=
  OpenClaim.holds_of_wide 3 Tryd.f3 rfl rfl rfl rfl rfl rfl rfl ⟨rfl, rfl, rfl, rfl, rfl⟩ rfl rfl rfl rfl rfl (by kernel_rfl) Tryd.func3 (by kernel_rfl)
    (of_decide_eq_true (by kernel_rfl)) (by unfold Func.isWrapper; first | (rw [if_pos (by decide +kernel)]; kernel_rfl) | (rw [if_neg (by decide +kernel)]; exact ⟨rfl, rfl⟩))
    (fun os started H enc _ => polyTexts_lifted os started H enc)
/-- THE TIED CARD. -/
theorem polyTexts_holds : Rows.PolyTextsCardSaid :=
  Claim7.holds_tied_plain_at .later [] [.data, .data, .data] true (true, "c2dd8e468c8eb6e7720054c261c52a4d13348997c6ec10c62e6c20aabe69f9de") false
    polyTexts_row (fun _ h => by cases h) (by kernel_rfl) (fun _ h => by cases h) polyTexts_row_tie rfl ⟨rfl, rfl⟩ (by kernel_rfl) rfl
    (fun f fn hf hfn => by
      obtain rfl : f = 3 := Option.some.inj ((show Tryd.prog.funcNamed "knotwork/knotworklaw.PolyTexts" = some 3 by kernel_rfl).symm.trans hf) |>.symm
      obtain rfl : fn = Tryd.f3 := (Option.some.inj (Tryd.func3.symm.trans hfn)).symm
      exact ⟨by kernel_rfl, fun j t ht => by
        rw [Tryd.params3] at ht
        have hm : t ∈ [22] := by simpa using Array.mem_of_getElem? ht
        have hall : ([22].all fun u => !Tryd.prog.wantsStandIn u) = true := by kernel_rfl
        exact (show Tryd.prog.wantsStandIn t = false by simpa using List.all_eq_true.1 hall t hm)⟩)
    (by kernel_rfl)
#print axioms polyTexts_holds
end Go.Proofs.YtakmjhkgilijiaaDoor
