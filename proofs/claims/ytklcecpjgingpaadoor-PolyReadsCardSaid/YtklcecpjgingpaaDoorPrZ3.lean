/- Part 3 of the proof of the law PolyReads: the walks through its functions and the plain laws that they need. -/
import Derived.Test.YtklcecpjgingpaaDoorPrZ2
set_option linter.unusedSimpArgs false
set_option linter.unusedVariables false
namespace Go.Proofs.YtklcecpjgingpaaDoor
open Go.ChangeShapes Go.WideShapes Go.ChangeAt Go.RowKit
def powT (e : Int) : List UInt8 := if e = 1 then [116] else [116, 94] ++ Lib.itoa e
def numT (t : Tm) : List UInt8 := Lib.decDigits (max t.c (-t.c)).toNat
def bodyT (t : Tm) : List UInt8 := if t.e = 0 then numT t else if max t.c (-t.c) = 1 then powT t.e else numT t ++ [42] ++ powT t.e
def sgT (i : Nat) (t : Tm) : List UInt8 := if i = 0 then (if t.c < 0 then [45] else []) else (if t.c < 0 then [32, 45, 32] else [32, 43, 32])
def polT (a : List Tm) : Nat → List UInt8
 | 0 => []
 | i + 1 => polT a i ++ sgT i (ga a i) ++ bodyT (ga a i)
def texT (a : List Tm) : List UInt8 := if a.length = 0 then [48] else polT a a.length
theorem sgT_00 {i : Nat} {t : Tm} (h : i = 0) (hc : t.c < 0) : sgT i t = [45] := by unfold sgT; rw [if_pos h, if_pos hc]
theorem sgT_01 {i : Nat} {t : Tm} (h : i = 0) (hc : ¬ t.c < 0) : sgT i t = [] := by unfold sgT; rw [if_pos h, if_neg hc]
theorem sgT_10 {i : Nat} {t : Tm} (h : ¬ i = 0) (hc : t.c < 0) : sgT i t = [32, 45, 32] := by unfold sgT; rw [if_neg h, if_pos hc]
theorem sgT_11 {i : Nat} {t : Tm} (h : ¬ i = 0) (hc : ¬ t.c < 0) : sgT i t = [32, 43, 32] := by unfold sgT; rw [if_neg h, if_neg hc]
theorem bodyT_0 {t : Tm} (h : t.e = 0) : bodyT t = numT t := by unfold bodyT; rw [if_pos h]
theorem bodyT_1 {t : Tm} (h : ¬ t.e = 0) (hc : max t.c (-t.c) = 1) : bodyT t = powT t.e := by unfold bodyT; rw [if_neg h, if_pos hc]
theorem bodyT_2 {t : Tm} (h : ¬ t.e = 0) (hc : ¬ max t.c (-t.c) = 1) : bodyT t = numT t ++ [42] ++ powT t.e := by unfold bodyT; rw [if_neg h, if_neg hc]
theorem powT_1 {e : Int} (h : e = 1) : powT e = [116] := by unfold powT; rw [if_pos h]
theorem powT_2 {e : Int} (h : ¬ e = 1) : powT e = [116, 94] ++ Lib.itoa e := by unfold powT; rw [if_neg h]
theorem powT_len {e : Int} (h : -1000 ≤ e ∧ e ≤ 1000) : (powT e).length ≤ 10 := by
 have := itoa8 (v := e) (by omega)
 unfold powT
 split
 ·simp
 ·rw [List.length_append]; simp only [List.length_cons, List.length_nil]; omega
theorem numT_len {t : Tm} (h : -1000000 ≤ t.c ∧ t.c ≤ 1000000) : (numT t).length ≤ 7 := dec7 (by omega)
theorem bodyT_len {t : Tm} (he : -1000 ≤ t.e ∧ t.e ≤ 1000) (hc : -1000000 ≤ t.c ∧ t.c ≤ 1000000) : (bodyT t).length ≤ 18 := by
 have h1 := powT_len he
 have h2 := numT_len hc
 unfold bodyT
 split
 ·omega
 ·split
  ·omega
  ·rw [List.length_append, List.length_append]; simp only [List.length_cons, List.length_nil]; omega
theorem sgT_len (i : Nat) (t : Tm) : (sgT i t).length ≤ 3 := by
 unfold sgT
 split <;> split <;> simp
theorem polT_len {a : List Tm} (h : ∀ i, i < a.length → okT a i) : ∀ i, i ≤ a.length → (polT a i).length ≤ 21 * i := by
 intro i
 induction i with
 | zero => intro _; exact Nat.le_refl _
 | succ i ih =>
  intro hi
  obtain ⟨h1, h2, _⟩ := h i (by omega)
  have h3 := ih (by omega)
  have h4 := bodyT_len h1 h2
  have h5 := sgT_len i (ga a i)
  rw [polT, List.length_append, List.length_append]
  omega
noncomputable def power_n0 : Code := Tryd.f32.body.getD .skip
noncomputable def power_n1 : Code := cL power_n0
noncomputable def power_n2 : Code := cR power_n0
noncomputable def power_n3 : Code := cL power_n2
noncomputable def power_n4 : Code := cR power_n2
noncomputable def power_n5 : Code := cL power_n3
noncomputable def power_n6 : Code := cR power_n3
noncomputable def power_n7 : Code := cL power_n6
noncomputable def power_n8 : Code := cR power_n6
noncomputable def power_n9 : Code := cL power_n7
noncomputable def power_n10 : Code := cR power_n7
noncomputable def power_n11 : Code := cL power_n4
noncomputable def power_n12 : Code := cR power_n4
set_option maxRecDepth 10000 in
theorem power_q {w : World} {M : Hp} {X : Fr} (e : Int) (he : -1000 ≤ e ∧ e ≤ 1000) (htb : TabU (M.un X.h)) (S : SH w M X []) : Cq Tryd.prog 32 [.int .i64 e] w M X (fun u => u = .string (sB (powT e))) := by
 unfold Cq
 refine calls_in (b := power_n0) Tryd.func32 rfl Tryd.ntmps32 rfl (fun C hC => ?_)
 refine ws_sub [(0, _)] ⟨rfl, trivial⟩ ?_
 refine ws_seqN power_n1 power_n2 rfl rfl rfl ?_
 refine ws_region rfl ?_
 refine wla 0 1 rfl rfl rfl rfl rfl rfl rfl ?_
 refine wl_end rfl ?_
 refine nm_sub [(0, _)] ⟨rfl, trivial⟩ ?_
 refine nm_thn ?_
 refine ws_seqN power_n3 power_n4 rfl rfl rfl ?_
 refine ws_seqN power_n5 power_n6 rfl rfl rfl ?_
 refine ws_region rfl ?_
 refine wlm 0 1 rfl rfl rfl rfl rfl rfl rfl ?_
 refine wlo 1 2 rfl rfl rfl (wo_run rfl rfl (run_eql rfl rfl rfl) ?_)
 refine wl_end rfl ?_
 refine nm_sub [(0, _), (4, _)] ⟨rfl, rfl, trivial⟩ ?_
 refine nm_thn ?_
 refine ws_condN power_n7 power_n8 rfl rfl rfl rfl (fun hb4 => ?_) (fun hb4 => ?_)
 ·replace hb4 := of_decide_eq_true hb4
  refine ws_seqN power_n9 power_n10 rfl rfl rfl ?_
  refine ws_region rfl ?_
  refine wla 0 1 rfl rfl rfl rfl rfl rfl rfl ?_
  refine wl_end rfl ?_
  refine nm_sub [(2, _)] ⟨rfl, trivial⟩ ?_
  refine nm_thn ?_
  refine ws_ret hC [_] rfl rfl ⟨rfl, trivial⟩ ?_
  exact ⟨_, rfl, (S.pick [] [] (by decide) trivial), (by unfold powT; first | (rw [if_pos (by assumption)]; rfl) | (rw [if_neg (by assumption)]; rfl))⟩
 ·replace hb4 := of_decide_eq_false hb4
  have hil := itoa8 (v := e) (by omega)
  refine ws_skip rfl ?_
  refine nm_sub [(0, _)] ⟨rfl, trivial⟩ ?_
  refine nm_thn ?_
  refine ws_seqN power_n11 power_n12 rfl rfl rfl ?_
  refine ws_region rfl ?_
  refine wlm 0 1 rfl rfl rfl rfl rfl rfl rfl ?_
  refine wlo 1 2 rfl rfl rfl (wo_cq rfl rfl rfl rfl rfl rfl rfl cf31 S (itoa_t e (by omega) (htb.mono S.un_XH) S.lend) ?_)
  rintro _ w1 S1 rfl; clear S
  refine wlo 2 3 rfl rfl rfl (wo_run rfl rfl (run_addS rfl rfl rfl ((by (try simp only [List.length_append, List.length_cons, List.length_nil]); first | omega | (simp only [lens]; omega)))) ?_)
  refine wla 3 4 rfl rfl rfl rfl rfl rfl rfl ?_
  refine wl_end rfl ?_
  refine nm_sub [(2, _)] ⟨rfl, trivial⟩ ?_
  refine nm_thn ?_
  refine ws_ret hC [_] rfl rfl ⟨rfl, trivial⟩ ?_
  exact ⟨_, rfl, (S1.pick [] [] (by decide) trivial), (by unfold powT; first | (rw [if_pos (by assumption)]; rfl) | (rw [if_neg (by assumption)]; rfl))⟩
noncomputable def text_n0 : Code := Tryd.f15.body.getD .skip
noncomputable def text_n1 : Code := cL text_n0
noncomputable def text_n2 : Code := cR text_n0
noncomputable def text_n3 : Code := cL text_n2
noncomputable def text_n4 : Code := cR text_n2
noncomputable def text_n5 : Code := cL text_n3
noncomputable def text_n6 : Code := cR text_n3
noncomputable def text_n7 : Code := cL text_n6
noncomputable def text_n8 : Code := cR text_n6
noncomputable def text_n9 : Code := cL text_n7
noncomputable def text_n10 : Code := cR text_n7
noncomputable def text_n11 : Code := cL text_n4
noncomputable def text_n12 : Code := cR text_n4
noncomputable def text_n13 : Code := cL text_n12
noncomputable def text_n14 : Code := cR text_n12
noncomputable def text_n15 : Code := cL text_n13
noncomputable def text_n16 : Code := cR text_n13
noncomputable def text_n17 : Code := cL text_n16
noncomputable def text_n18 : Code := cL text_n17
noncomputable def text_n19 : Code := cL text_n18
noncomputable def text_n20 : Code := cR text_n18
noncomputable def text_n21 : Code := cL text_n20
noncomputable def text_n22 : Code := cR text_n20
noncomputable def text_n23 : Code := cL text_n21
noncomputable def text_n24 : Code := cR text_n21
noncomputable def text_n25 : Code := cL text_n22
noncomputable def text_n26 : Code := cR text_n22
noncomputable def text_n27 : Code := cL text_n25
noncomputable def text_n28 : Code := cL text_n27
noncomputable def text_n29 : Code := cR text_n27
noncomputable def text_n30 : Code := cL text_n29
noncomputable def text_n31 : Code := cR text_n29
noncomputable def text_n32 : Code := cL text_n30
noncomputable def text_n33 : Code := cL text_n32
noncomputable def text_n34 : Code := cR text_n32
noncomputable def text_n35 : Code := cL text_n34
noncomputable def text_n36 : Code := cR text_n34
noncomputable def text_n37 : Code := cL text_n31
noncomputable def text_n38 : Code := cR text_n31
noncomputable def text_n39 : Code := cL text_n38
noncomputable def text_n40 : Code := cL text_n39
noncomputable def text_n41 : Code := cR text_n39
noncomputable def text_n42 : Code := cL text_n41
noncomputable def text_n43 : Code := cR text_n41
noncomputable def text_n44 : Code := cL text_n43
noncomputable def text_n45 : Code := cR text_n43
noncomputable def text_n46 : Code := cL text_n45
noncomputable def text_n47 : Code := cR text_n45
noncomputable def text_n48 : Code := cL text_n36
noncomputable def text_n49 : Code := cR text_n36
noncomputable def text_n50 : Code := cL text_n49
noncomputable def text_n51 : Code := cR text_n49
noncomputable def text_n52 : Code := cL text_n51
noncomputable def text_n53 : Code := cR text_n51
noncomputable def text_n54 : Code := cL text_n53
noncomputable def text_n55 : Code := cR text_n53
noncomputable def text_n56 : Code := cL text_n14
noncomputable def text_n57 : Code := cR text_n14
set_option maxHeartbeats 4000000 in
set_option maxRecDepth 10000 in
theorem text_q {w : World} {M : Hp} {X : Fr} (a : List Tm) {aA : Option Addr} {ac : Nat} (ha : RdA cdTm (M.un X.h) aA ac a) (hok : ∀ i, i < a.length → okT a i) (hal : a.length ≤ 64) (htb : TabU (M.un X.h)) (S : SH w M X []) : Cq Tryd.prog 15 [.slice aA a.length ac] w M X (fun u => u = .string (sB (texT a))) := by
 unfold Cq
 have rmha : a.length * 16 ≤ 140737488355328 := ha.room
 refine calls_in (b := text_n0) Tryd.func15 rfl Tryd.ntmps15 rfl (fun C hC => ?_)
 refine ws_sub [(0, _)] ⟨rfl, trivial⟩ ?_
 refine ws_seqN text_n1 text_n2 rfl rfl rfl ?_
 refine ws_region rfl ?_
 refine wla 0 1 rfl rfl rfl rfl rfl rfl rfl ?_
 refine wl_end rfl ?_
 refine nm_sub [(0, _)] ⟨rfl, trivial⟩ ?_
 refine nm_thn ?_
 refine ws_seqN text_n3 text_n4 rfl rfl rfl ?_
 refine ws_seqN text_n5 text_n6 rfl rfl rfl ?_
 refine ws_region rfl ?_
 refine wlm 0 1 rfl rfl rfl rfl rfl rfl rfl ?_
 refine wlo 1 2 rfl rfl rfl (wo_run rfl rfl (run_len rfl rfl rfl rfl rfl rfl Tryd.underlying22) ?_)
 refine wlo 2 3 rfl rfl rfl (wo_run rfl rfl (run_eql rfl rfl rfl) ?_)
 refine wl_end rfl ?_
 refine nm_sub [(0, _), (9, _)] ⟨rfl, rfl, trivial⟩ ?_
 refine nm_thn ?_
 refine ws_condN text_n7 text_n8 rfl rfl rfl rfl (fun hb9 => ?_) (fun hb9 => ?_)
 ·replace hb9 := of_decide_eq_true hb9
  refine ws_seqN text_n9 text_n10 rfl rfl rfl ?_
  refine ws_region rfl ?_
  refine wla 0 1 rfl rfl rfl rfl rfl rfl rfl ?_
  refine wl_end rfl ?_
  refine nm_sub [(2, _)] ⟨rfl, trivial⟩ ?_
  refine nm_thn ?_
  refine ws_ret hC [_] rfl rfl ⟨rfl, trivial⟩ ?_
  exact ⟨_, rfl, (S.pick [] [] (by decide) trivial), (by unfold texT; rw [if_pos (by omega)]; rfl)⟩
 ·replace hb9 := of_decide_eq_false hb9
  refine ws_skip rfl ?_
  refine nm_sub [(0, _)] ⟨rfl, trivial⟩ ?_
  refine nm_thn ?_
  refine ws_seqN text_n11 text_n12 rfl rfl rfl ?_
  refine ws_region rfl ?_
  refine wla 0 1 rfl rfl rfl rfl rfl rfl rfl ?_
  refine wl_end rfl ?_
  refine nm_thn ?_
  refine ws_seqN text_n13 text_n14 rfl rfl rfl ?_
  refine ws_seqN text_n15 text_n16 rfl rfl rfl ?_
  refine ws_region rfl ?_
  refine wlm 0 1 rfl rfl rfl rfl rfl rfl rfl ?_
  refine wlo 1 2 rfl rfl rfl (wo_run rfl rfl (run_len rfl rfl rfl rfl rfl rfl Tryd.underlying22) ?_)
  refine wlm 2 3 rfl rfl rfl rfl rfl rfl rfl ?_
  refine wl_end rfl ?_
  refine nm_sub [(3, _), (10, _), (11, _), (12, _)] ⟨rfl, rfl, rfl, rfl, trivial⟩ ?_
  refine nm_thn ?_
  refine ws_blockN text_n17 0 rfl rfl rfl ?_
  refine ws_loopE (fun mx_ ax_ wx_ => ∃ (i : Nat) (s9 : List UInt8), mx_ = a.length - i ∧ Env 75 [(3, .string (sB s9)), (10, .slice aA a.length ac), (11, .int .i64 (a.length : Int)), (12, .int .i64 (i : Int))] ax_ ∧ SH wx_ M X [] ∧ i ≤ a.length ∧ s9 = polT a i) rfl ?_ ?_
  ·intro ax_ hax_
   refine ⟨_, ⟨0, ([] : List UInt8), rfl, hax_.sub ⟨rfl, rfl, rfl, rfl, trivial⟩, S.pick [] [] (by decide) trivial, ?hq1f0, ?hq1f1⟩⟩
   case hq1f0 => omega
   case hq1f1 => rfl
  ·rintro m1 a1 w1 ⟨i, s9, rfl, he1, S1, hi, hs9⟩
   clear S
   refine ws_in he1 (c := text_n18) rfl ?_
   clear he1 a1
   refine ws_seqN text_n19 text_n20 rfl rfl rfl ?_
   refine ws_region rfl ?_
   refine wlo 0 1 rfl rfl rfl (wo_run rfl rfl (run_lss rfl rfl rfl) ?_)
   refine wl_end rfl ?_
   refine nm_thn ?_
   refine ws_seqN text_n21 text_n22 rfl rfl rfl ?_
   refine ws_condN text_n23 text_n24 rfl rfl rfl rfl (fun hb13 => ?_) (fun hb13 => ?_)
   ·replace hb13 := of_decide_eq_true hb13
    refine ws_skip rfl ?_
    refine nm_sub [(3, _), (10, _), (11, _), (12, _)] ⟨rfl, rfl, rfl, rfl, trivial⟩ ?_
    refine nm_thn ?_
    refine ws_seqN text_n25 text_n26 rfl rfl rfl ?_
    refine ws_blockN text_n27 1 rfl rfl rfl ?_
    refine ws_seqN text_n28 text_n29 rfl rfl rfl ?_
    obtain ⟨hoe, hoc, hnz, _⟩ := hok i (by omega)
    have hsl := polT_len hok i (by omega)
    rw [← hs9] at hsl
    have hnl := numT_len hoc
    unfold numT at hnl
    have hpl := powT_len hoe
    have hit : Lib.itoa (max (ga a i).c (-(ga a i).c)) = Lib.decDigits (max (ga a i).c (-(ga a i).c)).toNat := itoa_pos (by omega)
    have hil : (Lib.itoa (max (ga a i).c (-(ga a i).c))).length ≤ 7 := by rw [hit]; exact hnl
    refine ws_region rfl ?_
    refine wlm 0 1 rfl rfl rfl rfl rfl rfl rfl ?_
    refine wlo 1 2 rfl rfl rfl (wo_run rfl rfl (run_indexM (C := cdTm) i rfl rfl rfl sl22 (by first | rfl | omega) ha (by first | omega | (simp only [lens]; omega))) ?_)
    refine wlo 2 3 rfl rfl rfl (wo_run rfl rfl (run_loadN (us := [_, _]) rfl rfl Tryd.underlying38 rfl sz38 (ha.cellsAt S1.um (e := i) (by first | omega | (simp only [lens]; omega)) (j := 0) ⟨rfl, rfl, trivial⟩)) ?_)
    refine wlo 3 4 rfl rfl rfl (wo_alloc (l := [_, _]) rfl rfl rfl zr38 rfl S1 ?_)
    intro gb1 w2 S2; clear S1
    refine wla 4 5 rfl rfl rfl rfl rfl rfl rfl ?_
    refine wlo 5 6 rfl rfl rfl (wo_storeB (i := 0) (us := [_, _]) (l' := [_, _]) (H' := [_]) rfl rfl S2 rfl rfl rfl rfl sz38 rfl rfl rfl rfl ?_)
    intro w3 S3; clear S2
    refine wl_end rfl ?_
    refine nm_sub [(3, _), (10, _), (11, _), (12, _), (5, _), (4, _)] ⟨rfl, rfl, rfl, rfl, rfl, rfl, trivial⟩ ?_
    refine nm_thn ?_
    refine ws_seqN text_n30 text_n31 rfl rfl rfl ?_
    refine ws_blockN text_n32 2 rfl rfl rfl ?_
    refine ws_seqN text_n33 text_n34 rfl rfl rfl ?_
    refine ws_region rfl ?_
    refine wlm 0 1 rfl rfl rfl rfl rfl rfl rfl ?_
    refine wlo 1 2 rfl rfl rfl (wo_run rfl rfl (run_eql rfl rfl rfl) ?_)
    refine wlm 2 3 rfl rfl rfl rfl rfl rfl rfl ?_
    refine wl_split (t := 20) rfl (fun hg20 => ?_) (fun hg20 => ?_)
    ·replace hg20 := of_decide_eq_true hg20
     refine wl_opG (k := 3) (k' := 4) rfl rfl ⟨_, _, _, rfl, rfl, rfl, rfl⟩ rfl (wo_run rfl rfl (run_fieldAddr rfl rfl Tryd.underlying38 rfl (ce3) (nf3)) ?_)
     refine wl_opG (k := 4) (k' := 5) rfl rfl ⟨_, _, _, rfl, rfl, rfl, rfl⟩ rfl (wo_run rfl rfl (run_load1 rfl rfl Tryd.underlying3 rfl (S3.boxc (i := 0) rfl rfl)) ?_)
     refine wl_opG (k := 5) (k' := 6) rfl rfl ⟨_, _, _, rfl, rfl, rfl, rfl⟩ rfl (wo_run rfl rfl (run_lss rfl rfl rfl) ?_)
     refine wlo 6 7 rfl rfl rfl (wo_run rfl rfl (run_pickT rfl rfl rfl) ?_)
     refine wla 7 8 rfl rfl rfl rfl rfl rfl rfl ?_
     refine wl_end rfl ?_
     refine nm_sub [(3, _), (10, _), (11, _), (12, _), (5, _), (4, _), (17, _)] ⟨rfl, rfl, rfl, rfl, rfl, rfl, rfl, trivial⟩ ?_
     refine nm_thn ?_
     refine ws_condN text_n35 text_n36 rfl rfl rfl rfl (fun hb17 => ?_) (fun hb17 => ?_)
     ·replace hb17 := of_decide_eq_true hb17
      refine ws_region rfl ?_
      refine wlm 0 1 rfl rfl rfl rfl rfl rfl rfl ?_
      refine wlo 1 2 rfl rfl rfl (wo_run rfl rfl (run_addS rfl rfl rfl ((by (try simp only [List.length_append, List.length_cons, List.length_nil]); first | omega | (simp only [lens]; omega)))) ?_)
      refine wla 2 3 rfl rfl rfl rfl rfl rfl rfl ?_
      refine wl_end rfl ?_
      refine nm_blk ?_
      refine nm_sub [(3, _), (10, _), (11, _), (12, _), (5, _)] ⟨rfl, rfl, rfl, rfl, rfl, trivial⟩ ?_
      refine nm_thn ?_
      refine ws_seqN text_n37 text_n38 rfl rfl rfl ?_
      refine ws_region rfl ?_
      refine wlo 0 1 rfl rfl rfl (wo_run rfl rfl (run_fieldAddr rfl rfl Tryd.underlying38 rfl (ce3) (nf3)) ?_)
      refine wlo 1 2 rfl rfl rfl (wo_run rfl rfl (run_load1 rfl rfl Tryd.underlying3 rfl (S3.boxc (i := 0) rfl rfl)) ?_)
      refine wlo 2 3 rfl rfl rfl (wo_run rfl rfl (run_fieldAddr rfl rfl Tryd.underlying38 rfl (ce3) (nf3)) ?_)
      refine wlo 3 4 rfl rfl rfl (wo_run rfl rfl (run_load1 rfl rfl Tryd.underlying3 rfl (S3.boxc (i := 0) rfl rfl)) ?_)
      refine wlo 4 5 rfl rfl rfl (wo_run rfl rfl (run_neg rfl rfl (by first | omega | (simp only [lens]; omega))) ?_)
      refine wlo 5 6 rfl rfl rfl (wo_run rfl rfl (run_max rfl rfl rfl rfl rfl) ?_)
      refine wla 6 7 rfl rfl rfl rfl rfl rfl rfl ?_
      refine wl_end rfl ?_
      refine nm_sub [(3, _), (10, _), (11, _), (12, _), (5, _), (6, _)] ⟨rfl, rfl, rfl, rfl, rfl, rfl, trivial⟩ ?_
      refine nm_thn ?_
      refine ws_blockN text_n39 3 rfl rfl rfl ?_
      refine ws_seqN text_n40 text_n41 rfl rfl rfl ?_
      refine ws_region rfl ?_
      refine wlo 0 1 rfl rfl rfl (wo_run rfl rfl (run_fieldAddr rfl rfl Tryd.underlying38 rfl (ce3) (nf3)) ?_)
      refine wlo 1 2 rfl rfl rfl (wo_run rfl rfl (run_load1 rfl rfl Tryd.underlying3 rfl (S3.boxc (i := 0) rfl rfl)) ?_)
      refine wlo 2 3 rfl rfl rfl (wo_run rfl rfl (run_eql rfl rfl rfl) ?_)
      refine wla 3 4 rfl rfl rfl rfl rfl rfl rfl ?_
      refine wl_end rfl ?_
      refine nm_sub [(3, _), (10, _), (11, _), (12, _), (5, _), (6, _), (57, _)] ⟨rfl, rfl, rfl, rfl, rfl, rfl, rfl, trivial⟩ ?_
      refine nm_thn ?_
      refine ws_condN text_n42 text_n43 rfl rfl rfl rfl (fun hb57 => ?_) (fun hb57 => ?_)
      ·replace hb57 := of_decide_eq_true hb57
       refine ws_region rfl ?_
       refine wlm 0 1 rfl rfl rfl rfl rfl rfl rfl ?_
       refine wlm 1 2 rfl rfl rfl rfl rfl rfl rfl ?_
       refine wlo 2 3 rfl rfl rfl (wo_cq rfl rfl rfl rfl rfl rfl rfl cf31 S3 (itoa_t (max ((ga a i).c) (-((ga a i).c))) (by omega) (htb.mono S3.un_XH) S3.lend) ?_)
       rintro _ w4 S4 rfl; clear S3
       refine wlo 3 4 rfl rfl rfl (wo_run rfl rfl (run_addS rfl rfl rfl ((by (try simp only [List.length_append, List.length_cons, List.length_nil]); first | omega | (simp only [lens]; omega)))) ?_)
       refine wla 4 5 rfl rfl rfl rfl rfl rfl rfl ?_
       refine wl_end rfl ?_
       refine nm_blk ?_
       refine nm_blk ?_
       refine nm_sub [(3, _), (10, _), (11, _), (12, _)] ⟨rfl, rfl, rfl, rfl, trivial⟩ ?_
       refine nm_thn ?_
       refine ws_region rfl ?_
       refine wlo 0 1 rfl rfl rfl (wo_run rfl rfl (run_add rfl rfl rfl (by first | omega | (simp only [lens]; omega))) ?_)
       refine wlm 1 2 rfl rfl rfl rfl rfl rfl rfl ?_
       refine wl_end rfl ?_
       refine nm_lp ?_
       intro ax_ hax_
       refine ⟨_, ?hq2m, ⟨i + 1, ((s9 ++ ([45] : List UInt8)) ++ (Lib.itoa (max ((ga a i).c) (-((ga a i).c))))), rfl, hax_.sub ⟨rfl, rfl, rfl, rfl, trivial⟩, S4.pick [] [] (by decide) trivial, ?hq2f0, ?hq2f1⟩⟩
       case hq2f0 => omega
       case hq2f1 => (rw [polT, ← hs9]; (first | rw [sgT_00 (by omega) (by omega)] | rw [sgT_01 (by omega) (by omega)] | rw [sgT_10 (by omega) (by omega)] | rw [sgT_11 (by omega) (by omega)]); (first | rw [bodyT_0 (by omega)] | rw [bodyT_1 (by omega) (by omega)] | rw [bodyT_2 (by omega) (by omega)]); all_goals (first | rfl | (rw [hit]; done) | (rw [hit]; rfl) | (rw [List.append_nil]; done) | (rw [List.append_nil]; rfl) | (rw [hit, List.append_nil]; done) | (rw [hit, List.append_nil]; rfl)))
       case hq2m => omega
      ·replace hb57 := of_decide_eq_false hb57
       refine ws_seqN text_n44 text_n45 rfl rfl rfl ?_
       refine ws_region rfl ?_
       refine wlm 0 1 rfl rfl rfl rfl rfl rfl rfl ?_
       refine wlo 1 2 rfl rfl rfl (wo_run rfl rfl (run_eql rfl rfl rfl) ?_)
       refine wla 2 3 rfl rfl rfl rfl rfl rfl rfl ?_
       refine wl_end rfl ?_
       refine nm_sub [(3, _), (10, _), (11, _), (12, _), (5, _), (6, _), (65, _)] ⟨rfl, rfl, rfl, rfl, rfl, rfl, rfl, trivial⟩ ?_
       refine nm_thn ?_
       refine ws_condN text_n46 text_n47 rfl rfl rfl rfl (fun hb65 => ?_) (fun hb65 => ?_)
       ·replace hb65 := of_decide_eq_true hb65
        refine ws_region rfl ?_
        refine wlm 0 1 rfl rfl rfl rfl rfl rfl rfl ?_
        refine wlo 1 2 rfl rfl rfl (wo_run rfl rfl (run_fieldAddr rfl rfl Tryd.underlying38 rfl (ce3) (nf3)) ?_)
        refine wlo 2 3 rfl rfl rfl (wo_run rfl rfl (run_load1 rfl rfl Tryd.underlying3 rfl (S3.boxc (i := 0) rfl rfl)) ?_)
        refine wlo 3 4 rfl rfl rfl (wo_cq rfl rfl rfl rfl rfl rfl rfl cf32 S3 (power_q ((ga a i).e) (by omega) (htb.mono S3.un_XH) S3.lend) ?_)
        rintro _ w5 S5 rfl; clear S3
        refine wlo 4 5 rfl rfl rfl (wo_run rfl rfl (run_addS rfl rfl rfl ((by (try simp only [List.length_append, List.length_cons, List.length_nil]); first | omega | (simp only [lens]; omega)))) ?_)
        refine wla 5 6 rfl rfl rfl rfl rfl rfl rfl ?_
        refine wl_end rfl ?_
        refine nm_blk ?_
        refine nm_blk ?_
        refine nm_sub [(3, _), (10, _), (11, _), (12, _)] ⟨rfl, rfl, rfl, rfl, trivial⟩ ?_
        refine nm_thn ?_
        refine ws_region rfl ?_
        refine wlo 0 1 rfl rfl rfl (wo_run rfl rfl (run_add rfl rfl rfl (by first | omega | (simp only [lens]; omega))) ?_)
        refine wlm 1 2 rfl rfl rfl rfl rfl rfl rfl ?_
        refine wl_end rfl ?_
        refine nm_lp ?_
        intro ax_ hax_
        refine ⟨_, ?hq3m, ⟨i + 1, ((s9 ++ ([45] : List UInt8)) ++ (powT ((ga a i).e))), rfl, hax_.sub ⟨rfl, rfl, rfl, rfl, trivial⟩, S5.pick [] [] (by decide) trivial, ?hq3f0, ?hq3f1⟩⟩
        case hq3f0 => omega
        case hq3f1 => (rw [polT, ← hs9]; (first | rw [sgT_00 (by omega) (by omega)] | rw [sgT_01 (by omega) (by omega)] | rw [sgT_10 (by omega) (by omega)] | rw [sgT_11 (by omega) (by omega)]); (first | rw [bodyT_0 (by omega)] | rw [bodyT_1 (by omega) (by omega)] | rw [bodyT_2 (by omega) (by omega)]); all_goals (first | rfl | (rw [hit]; done) | (rw [hit]; rfl) | (rw [List.append_nil]; done) | (rw [List.append_nil]; rfl) | (rw [hit, List.append_nil]; done) | (rw [hit, List.append_nil]; rfl)))
        case hq3m => omega
       ·replace hb65 := of_decide_eq_false hb65
        refine ws_draw rfl (by kernel_rfl) S3 10 rfl ?_
        clear S3
        refine wa_takeP (i := 0) (d := 48) 9 rfl (by kernel_rfl) (by kernel_rfl) (by kernel_rfl) rfl rfl rfl (fun w6 => run_move rfl rfl) ?_
        refine wa_takeP (i := 1) (d := 49) 8 rfl (by kernel_rfl) (by kernel_rfl) (by kernel_rfl) rfl rfl rfl (fun w7 => run_move rfl rfl) ?_
        refine wa_take (i := 2) (d := 50) 7 rfl (by kernel_rfl) (by kernel_rfl) (by kernel_rfl) rfl rfl rfl (fun M3 N3 w8 hle4 S8 => yield_cq rfl rfl rfl rfl rfl cf31 S8 (itoa_t (max ((ga a i).c) (-((ga a i).c))) (by omega) ((htb.mono (Hp.un_mono hle4 S8.mx)).mono S8.un_XH) S8.lend)) ?_
        refine wa_takeP (i := 3) (d := 51) 6 rfl (by kernel_rfl) (by kernel_rfl) (by kernel_rfl) rfl rfl rfl (fun w9 => run_addS rfl rfl rfl ((by (try simp only [List.length_append, List.length_cons, List.length_nil]); first | omega | (simp only [lens]; omega)))) ?_
        refine wa_takeP (i := 4) (d := 52) 5 rfl (by kernel_rfl) (by kernel_rfl) (by kernel_rfl) rfl rfl rfl (fun w10 => run_fieldAddr rfl rfl Tryd.underlying38 rfl (ce3) (nf3)) ?_
        refine wa_take (i := 5) (d := 53) 4 rfl (by kernel_rfl) (by kernel_rfl) (by kernel_rfl) rfl rfl rfl (fun M6 N6 w11 hle7 S11 => .inl (run_load1 rfl rfl Tryd.underlying3 rfl (S11.suf.boxc (i := 0) rfl rfl))) ?_
        refine wa_take (i := 6) (d := 54) 3 rfl (by kernel_rfl) (by kernel_rfl) (by kernel_rfl) rfl rfl rfl (fun M7 N7 w12 hle8 S12 => yield_cq rfl rfl rfl rfl rfl cf32 S12 (power_q ((ga a i).e) (by omega) ((htb.mono (Hp.un_mono hle8 S12.mx)).mono S12.un_XH) S12.lend)) ?_
        refine wa_takeP (i := 7) (d := 55) 2 rfl (by kernel_rfl) (by kernel_rfl) (by kernel_rfl) rfl rfl rfl (fun w13 => run_addS rfl rfl rfl ((by (try simp only [List.length_append, List.length_cons, List.length_nil]); first | omega | (simp only [lens]; omega)))) ?_
        refine wa_takeP (i := 8) (d := 56) 1 rfl (by kernel_rfl) (by kernel_rfl) (by kernel_rfl) rfl rfl rfl (fun w14 => run_addS rfl rfl rfl ((by (try simp only [List.length_append, List.length_cons, List.length_nil]); first | omega | (simp only [lens]; omega)))) ?_
        refine wa_takeP (i := 9) (d := 3) 0 rfl (by kernel_rfl) (by kernel_rfl) (by kernel_rfl) rfl rfl rfl (fun w15 => run_assign rfl rfl) ?_
        refine wa_end (by kernel_rfl) (fun w16 S16 => ?_)
        refine nm_blk ?_
        refine nm_blk ?_
        refine nm_sub [(3, _), (10, _), (11, _), (12, _)] ⟨rfl, rfl, rfl, rfl, trivial⟩ ?_
        refine nm_thn ?_
        refine ws_region rfl ?_
        refine wlo 0 1 rfl rfl rfl (wo_run rfl rfl (run_add rfl rfl rfl (by first | omega | (simp only [lens]; omega))) ?_)
        refine wlm 1 2 rfl rfl rfl rfl rfl rfl rfl ?_
        refine wl_end rfl ?_
        refine nm_lp ?_
        intro ax_ hax_
        refine ⟨_, ?hq4m, ⟨i + 1, ((s9 ++ ([45] : List UInt8)) ++ (((Lib.itoa (max ((ga a i).c) (-((ga a i).c)))) ++ ([42] : List UInt8)) ++ (powT ((ga a i).e)))), rfl, hax_.sub ⟨rfl, rfl, rfl, rfl, trivial⟩, S16.pick [] [] (by decide) trivial, ?hq4f0, ?hq4f1⟩⟩
        case hq4f0 => omega
        case hq4f1 => (rw [polT, ← hs9]; (first | rw [sgT_00 (by omega) (by omega)] | rw [sgT_01 (by omega) (by omega)] | rw [sgT_10 (by omega) (by omega)] | rw [sgT_11 (by omega) (by omega)]); (first | rw [bodyT_0 (by omega)] | rw [bodyT_1 (by omega) (by omega)] | rw [bodyT_2 (by omega) (by omega)]); all_goals (first | rfl | (rw [hit]; done) | (rw [hit]; rfl) | (rw [List.append_nil]; done) | (rw [List.append_nil]; rfl) | (rw [hit, List.append_nil]; done) | (rw [hit, List.append_nil]; rfl)))
        case hq4m => omega
     ·replace hb17 := of_decide_eq_false hb17
      refine ws_seqN text_n48 text_n49 rfl rfl rfl ?_
      refine ws_region rfl ?_
      refine wlm 0 1 rfl rfl rfl rfl rfl rfl rfl ?_
      refine wlo 1 2 rfl rfl rfl (wo_run rfl rfl (run_gtr rfl rfl rfl) ?_)
      refine wlm 2 3 rfl rfl rfl rfl rfl rfl rfl ?_
      refine wl_split (t := 30) rfl (fun hg30 => ?_) (fun hg30 => ?_)
      ·replace hg30 := of_decide_eq_true hg30
       exfalso; omega
      ·replace hg30 := of_decide_eq_false hg30
       refine wl_no (k := 3) (k' := 4) (d := 31) rfl rfl ⟨_, _, _, rfl, rfl, rfl, rfl⟩ rfl rfl ?_
       refine wl_no (k := 4) (k' := 5) (d := 32) rfl rfl ⟨_, _, _, rfl, rfl, rfl, rfl⟩ rfl rfl ?_
       refine wl_no (k := 5) (k' := 6) (d := 33) rfl rfl ⟨_, _, _, rfl, rfl, rfl, rfl⟩ rfl rfl ?_
       refine wlo 6 7 rfl rfl rfl (wo_run rfl rfl (run_pickF rfl rfl rfl) ?_)
       refine wla 7 8 rfl rfl rfl rfl rfl rfl rfl ?_
       refine wl_end rfl ?_
       refine nm_sub [(3, _), (10, _), (11, _), (12, _), (5, _), (4, _), (27, _)] ⟨rfl, rfl, rfl, rfl, rfl, rfl, rfl, trivial⟩ ?_
       refine nm_thn ?_
       refine ws_condFN text_n51 rfl rfl rfl ?_
       refine ws_seqN text_n52 text_n53 rfl rfl rfl ?_
       refine ws_region rfl ?_
       refine wlm 0 1 rfl rfl rfl rfl rfl rfl rfl ?_
       refine wlo 1 2 rfl rfl rfl (wo_run rfl rfl (run_gtr rfl rfl rfl) ?_)
       refine wla 2 3 rfl rfl rfl rfl rfl rfl rfl ?_
       refine wl_end rfl ?_
       refine nm_sub [(3, _), (10, _), (11, _), (12, _), (5, _), (37, _)] ⟨rfl, rfl, rfl, rfl, rfl, rfl, trivial⟩ ?_
       refine nm_thn ?_
       refine ws_condN text_n54 text_n55 rfl rfl rfl rfl (fun hb37 => ?_) (fun hb37 => ?_)
       ·replace hb37 := of_decide_eq_true hb37
        exfalso; omega
       ·replace hb37 := of_decide_eq_false hb37
        refine ws_skip rfl ?_
        refine nm_blk ?_
        refine nm_sub [(3, _), (10, _), (11, _), (12, _), (5, _)] ⟨rfl, rfl, rfl, rfl, rfl, trivial⟩ ?_
        refine nm_thn ?_
        refine ws_seqN text_n37 text_n38 rfl rfl rfl ?_
        refine ws_region rfl ?_
        refine wlo 0 1 rfl rfl rfl (wo_run rfl rfl (run_fieldAddr rfl rfl Tryd.underlying38 rfl (ce3) (nf3)) ?_)
        refine wlo 1 2 rfl rfl rfl (wo_run rfl rfl (run_load1 rfl rfl Tryd.underlying3 rfl (S3.boxc (i := 0) rfl rfl)) ?_)
        refine wlo 2 3 rfl rfl rfl (wo_run rfl rfl (run_fieldAddr rfl rfl Tryd.underlying38 rfl (ce3) (nf3)) ?_)
        refine wlo 3 4 rfl rfl rfl (wo_run rfl rfl (run_load1 rfl rfl Tryd.underlying3 rfl (S3.boxc (i := 0) rfl rfl)) ?_)
        refine wlo 4 5 rfl rfl rfl (wo_run rfl rfl (run_neg rfl rfl (by first | omega | (simp only [lens]; omega))) ?_)
        refine wlo 5 6 rfl rfl rfl (wo_run rfl rfl (run_max rfl rfl rfl rfl rfl) ?_)
        refine wla 6 7 rfl rfl rfl rfl rfl rfl rfl ?_
        refine wl_end rfl ?_
        refine nm_sub [(3, _), (10, _), (11, _), (12, _), (5, _), (6, _)] ⟨rfl, rfl, rfl, rfl, rfl, rfl, trivial⟩ ?_
        refine nm_thn ?_
        refine ws_blockN text_n39 3 rfl rfl rfl ?_
        refine ws_seqN text_n40 text_n41 rfl rfl rfl ?_
        refine ws_region rfl ?_
        refine wlo 0 1 rfl rfl rfl (wo_run rfl rfl (run_fieldAddr rfl rfl Tryd.underlying38 rfl (ce3) (nf3)) ?_)
        refine wlo 1 2 rfl rfl rfl (wo_run rfl rfl (run_load1 rfl rfl Tryd.underlying3 rfl (S3.boxc (i := 0) rfl rfl)) ?_)
        refine wlo 2 3 rfl rfl rfl (wo_run rfl rfl (run_eql rfl rfl rfl) ?_)
        refine wla 3 4 rfl rfl rfl rfl rfl rfl rfl ?_
        refine wl_end rfl ?_
        refine nm_sub [(3, _), (10, _), (11, _), (12, _), (5, _), (6, _), (57, _)] ⟨rfl, rfl, rfl, rfl, rfl, rfl, rfl, trivial⟩ ?_
        refine nm_thn ?_
        refine ws_condN text_n42 text_n43 rfl rfl rfl rfl (fun hb57 => ?_) (fun hb57 => ?_)
        ·replace hb57 := of_decide_eq_true hb57
         refine ws_region rfl ?_
         refine wlm 0 1 rfl rfl rfl rfl rfl rfl rfl ?_
         refine wlm 1 2 rfl rfl rfl rfl rfl rfl rfl ?_
         refine wlo 2 3 rfl rfl rfl (wo_cq rfl rfl rfl rfl rfl rfl rfl cf31 S3 (itoa_t (max ((ga a i).c) (-((ga a i).c))) (by omega) (htb.mono S3.un_XH) S3.lend) ?_)
         rintro _ w17 S17 rfl; clear S3
         refine wlo 3 4 rfl rfl rfl (wo_run rfl rfl (run_addS rfl rfl rfl ((by (try simp only [List.length_append, List.length_cons, List.length_nil]); first | omega | (simp only [lens]; omega)))) ?_)
         refine wla 4 5 rfl rfl rfl rfl rfl rfl rfl ?_
         refine wl_end rfl ?_
         refine nm_blk ?_
         refine nm_blk ?_
         refine nm_sub [(3, _), (10, _), (11, _), (12, _)] ⟨rfl, rfl, rfl, rfl, trivial⟩ ?_
         refine nm_thn ?_
         refine ws_region rfl ?_
         refine wlo 0 1 rfl rfl rfl (wo_run rfl rfl (run_add rfl rfl rfl (by first | omega | (simp only [lens]; omega))) ?_)
         refine wlm 1 2 rfl rfl rfl rfl rfl rfl rfl ?_
         refine wl_end rfl ?_
         refine nm_lp ?_
         intro ax_ hax_
         refine ⟨_, ?hq5m, ⟨i + 1, (s9 ++ (Lib.itoa (max ((ga a i).c) (-((ga a i).c))))), rfl, hax_.sub ⟨rfl, rfl, rfl, rfl, trivial⟩, S17.pick [] [] (by decide) trivial, ?hq5f0, ?hq5f1⟩⟩
         case hq5f0 => omega
         case hq5f1 => (rw [polT, ← hs9]; (first | rw [sgT_00 (by omega) (by omega)] | rw [sgT_01 (by omega) (by omega)] | rw [sgT_10 (by omega) (by omega)] | rw [sgT_11 (by omega) (by omega)]); (first | rw [bodyT_0 (by omega)] | rw [bodyT_1 (by omega) (by omega)] | rw [bodyT_2 (by omega) (by omega)]); all_goals (first | rfl | (rw [hit]; done) | (rw [hit]; rfl) | (rw [List.append_nil]; done) | (rw [List.append_nil]; rfl) | (rw [hit, List.append_nil]; done) | (rw [hit, List.append_nil]; rfl)))
         case hq5m => omega
        ·replace hb57 := of_decide_eq_false hb57
         refine ws_seqN text_n44 text_n45 rfl rfl rfl ?_
         refine ws_region rfl ?_
         refine wlm 0 1 rfl rfl rfl rfl rfl rfl rfl ?_
         refine wlo 1 2 rfl rfl rfl (wo_run rfl rfl (run_eql rfl rfl rfl) ?_)
         refine wla 2 3 rfl rfl rfl rfl rfl rfl rfl ?_
         refine wl_end rfl ?_
         refine nm_sub [(3, _), (10, _), (11, _), (12, _), (5, _), (6, _), (65, _)] ⟨rfl, rfl, rfl, rfl, rfl, rfl, rfl, trivial⟩ ?_
         refine nm_thn ?_
         refine ws_condN text_n46 text_n47 rfl rfl rfl rfl (fun hb65 => ?_) (fun hb65 => ?_)
         ·replace hb65 := of_decide_eq_true hb65
          refine ws_region rfl ?_
          refine wlm 0 1 rfl rfl rfl rfl rfl rfl rfl ?_
          refine wlo 1 2 rfl rfl rfl (wo_run rfl rfl (run_fieldAddr rfl rfl Tryd.underlying38 rfl (ce3) (nf3)) ?_)
          refine wlo 2 3 rfl rfl rfl (wo_run rfl rfl (run_load1 rfl rfl Tryd.underlying3 rfl (S3.boxc (i := 0) rfl rfl)) ?_)
          refine wlo 3 4 rfl rfl rfl (wo_cq rfl rfl rfl rfl rfl rfl rfl cf32 S3 (power_q ((ga a i).e) (by omega) (htb.mono S3.un_XH) S3.lend) ?_)
          rintro _ w18 S18 rfl; clear S3
          refine wlo 4 5 rfl rfl rfl (wo_run rfl rfl (run_addS rfl rfl rfl ((by (try simp only [List.length_append, List.length_cons, List.length_nil]); first | omega | (simp only [lens]; omega)))) ?_)
          refine wla 5 6 rfl rfl rfl rfl rfl rfl rfl ?_
          refine wl_end rfl ?_
          refine nm_blk ?_
          refine nm_blk ?_
          refine nm_sub [(3, _), (10, _), (11, _), (12, _)] ⟨rfl, rfl, rfl, rfl, trivial⟩ ?_
          refine nm_thn ?_
          refine ws_region rfl ?_
          refine wlo 0 1 rfl rfl rfl (wo_run rfl rfl (run_add rfl rfl rfl (by first | omega | (simp only [lens]; omega))) ?_)
          refine wlm 1 2 rfl rfl rfl rfl rfl rfl rfl ?_
          refine wl_end rfl ?_
          refine nm_lp ?_
          intro ax_ hax_
          refine ⟨_, ?hq6m, ⟨i + 1, (s9 ++ (powT ((ga a i).e))), rfl, hax_.sub ⟨rfl, rfl, rfl, rfl, trivial⟩, S18.pick [] [] (by decide) trivial, ?hq6f0, ?hq6f1⟩⟩
          case hq6f0 => omega
          case hq6f1 => (rw [polT, ← hs9]; (first | rw [sgT_00 (by omega) (by omega)] | rw [sgT_01 (by omega) (by omega)] | rw [sgT_10 (by omega) (by omega)] | rw [sgT_11 (by omega) (by omega)]); (first | rw [bodyT_0 (by omega)] | rw [bodyT_1 (by omega) (by omega)] | rw [bodyT_2 (by omega) (by omega)]); all_goals (first | rfl | (rw [hit]; done) | (rw [hit]; rfl) | (rw [List.append_nil]; done) | (rw [List.append_nil]; rfl) | (rw [hit, List.append_nil]; done) | (rw [hit, List.append_nil]; rfl)))
          case hq6m => omega
         ·replace hb65 := of_decide_eq_false hb65
          refine ws_draw rfl (by kernel_rfl) S3 10 rfl ?_
          clear S3
          refine wa_takeP (i := 0) (d := 48) 9 rfl (by kernel_rfl) (by kernel_rfl) (by kernel_rfl) rfl rfl rfl (fun w19 => run_move rfl rfl) ?_
          refine wa_takeP (i := 1) (d := 49) 8 rfl (by kernel_rfl) (by kernel_rfl) (by kernel_rfl) rfl rfl rfl (fun w20 => run_move rfl rfl) ?_
          refine wa_take (i := 2) (d := 50) 7 rfl (by kernel_rfl) (by kernel_rfl) (by kernel_rfl) rfl rfl rfl (fun M13 N13 w21 hle14 S21 => yield_cq rfl rfl rfl rfl rfl cf31 S21 (itoa_t (max ((ga a i).c) (-((ga a i).c))) (by omega) ((htb.mono (Hp.un_mono hle14 S21.mx)).mono S21.un_XH) S21.lend)) ?_
          refine wa_takeP (i := 3) (d := 51) 6 rfl (by kernel_rfl) (by kernel_rfl) (by kernel_rfl) rfl rfl rfl (fun w22 => run_addS rfl rfl rfl ((by (try simp only [List.length_append, List.length_cons, List.length_nil]); first | omega | (simp only [lens]; omega)))) ?_
          refine wa_takeP (i := 4) (d := 52) 5 rfl (by kernel_rfl) (by kernel_rfl) (by kernel_rfl) rfl rfl rfl (fun w23 => run_fieldAddr rfl rfl Tryd.underlying38 rfl (ce3) (nf3)) ?_
          refine wa_take (i := 5) (d := 53) 4 rfl (by kernel_rfl) (by kernel_rfl) (by kernel_rfl) rfl rfl rfl (fun M16 N16 w24 hle17 S24 => .inl (run_load1 rfl rfl Tryd.underlying3 rfl (S24.suf.boxc (i := 0) rfl rfl))) ?_
          refine wa_take (i := 6) (d := 54) 3 rfl (by kernel_rfl) (by kernel_rfl) (by kernel_rfl) rfl rfl rfl (fun M17 N17 w25 hle18 S25 => yield_cq rfl rfl rfl rfl rfl cf32 S25 (power_q ((ga a i).e) (by omega) ((htb.mono (Hp.un_mono hle18 S25.mx)).mono S25.un_XH) S25.lend)) ?_
          refine wa_takeP (i := 7) (d := 55) 2 rfl (by kernel_rfl) (by kernel_rfl) (by kernel_rfl) rfl rfl rfl (fun w26 => run_addS rfl rfl rfl ((by (try simp only [List.length_append, List.length_cons, List.length_nil]); first | omega | (simp only [lens]; omega)))) ?_
          refine wa_takeP (i := 8) (d := 56) 1 rfl (by kernel_rfl) (by kernel_rfl) (by kernel_rfl) rfl rfl rfl (fun w27 => run_addS rfl rfl rfl ((by (try simp only [List.length_append, List.length_cons, List.length_nil]); first | omega | (simp only [lens]; omega)))) ?_
          refine wa_takeP (i := 9) (d := 3) 0 rfl (by kernel_rfl) (by kernel_rfl) (by kernel_rfl) rfl rfl rfl (fun w28 => run_assign rfl rfl) ?_
          refine wa_end (by kernel_rfl) (fun w29 S29 => ?_)
          refine nm_blk ?_
          refine nm_blk ?_
          refine nm_sub [(3, _), (10, _), (11, _), (12, _)] ⟨rfl, rfl, rfl, rfl, trivial⟩ ?_
          refine nm_thn ?_
          refine ws_region rfl ?_
          refine wlo 0 1 rfl rfl rfl (wo_run rfl rfl (run_add rfl rfl rfl (by first | omega | (simp only [lens]; omega))) ?_)
          refine wlm 1 2 rfl rfl rfl rfl rfl rfl rfl ?_
          refine wl_end rfl ?_
          refine nm_lp ?_
          intro ax_ hax_
          refine ⟨_, ?hq7m, ⟨i + 1, (s9 ++ (((Lib.itoa (max ((ga a i).c) (-((ga a i).c)))) ++ ([42] : List UInt8)) ++ (powT ((ga a i).e)))), rfl, hax_.sub ⟨rfl, rfl, rfl, rfl, trivial⟩, S29.pick [] [] (by decide) trivial, ?hq7f0, ?hq7f1⟩⟩
          case hq7f0 => omega
          case hq7f1 => (rw [polT, ← hs9]; (first | rw [sgT_00 (by omega) (by omega)] | rw [sgT_01 (by omega) (by omega)] | rw [sgT_10 (by omega) (by omega)] | rw [sgT_11 (by omega) (by omega)]); (first | rw [bodyT_0 (by omega)] | rw [bodyT_1 (by omega) (by omega)] | rw [bodyT_2 (by omega) (by omega)]); all_goals (first | rfl | (rw [hit]; done) | (rw [hit]; rfl) | (rw [List.append_nil]; done) | (rw [List.append_nil]; rfl) | (rw [hit, List.append_nil]; done) | (rw [hit, List.append_nil]; rfl)))
          case hq7m => omega
    ·replace hg20 := of_decide_eq_false hg20
     refine wl_no (k := 3) (k' := 4) (d := 21) rfl rfl ⟨_, _, _, rfl, rfl, rfl, rfl⟩ rfl rfl ?_
     refine wl_no (k := 4) (k' := 5) (d := 22) rfl rfl ⟨_, _, _, rfl, rfl, rfl, rfl⟩ rfl rfl ?_
     refine wl_no (k := 5) (k' := 6) (d := 23) rfl rfl ⟨_, _, _, rfl, rfl, rfl, rfl⟩ rfl rfl ?_
     refine wlo 6 7 rfl rfl rfl (wo_run rfl rfl (run_pickF rfl rfl rfl) ?_)
     refine wla 7 8 rfl rfl rfl rfl rfl rfl rfl ?_
     refine wl_end rfl ?_
     refine nm_sub [(3, _), (10, _), (11, _), (12, _), (5, _), (4, _), (17, _)] ⟨rfl, rfl, rfl, rfl, rfl, rfl, rfl, trivial⟩ ?_
     refine nm_thn ?_
     refine ws_condFN text_n36 rfl rfl rfl ?_
     refine ws_seqN text_n48 text_n49 rfl rfl rfl ?_
     refine ws_region rfl ?_
     refine wlm 0 1 rfl rfl rfl rfl rfl rfl rfl ?_
     refine wlo 1 2 rfl rfl rfl (wo_run rfl rfl (run_gtr rfl rfl rfl) ?_)
     refine wlm 2 3 rfl rfl rfl rfl rfl rfl rfl ?_
     refine wl_split (t := 30) rfl (fun hg30 => ?_) (fun hg30 => ?_)
     ·replace hg30 := of_decide_eq_true hg30
      refine wl_opG (k := 3) (k' := 4) rfl rfl ⟨_, _, _, rfl, rfl, rfl, rfl⟩ rfl (wo_run rfl rfl (run_fieldAddr rfl rfl Tryd.underlying38 rfl (ce3) (nf3)) ?_)
      refine wl_opG (k := 4) (k' := 5) rfl rfl ⟨_, _, _, rfl, rfl, rfl, rfl⟩ rfl (wo_run rfl rfl (run_load1 rfl rfl Tryd.underlying3 rfl (S3.boxc (i := 0) rfl rfl)) ?_)
      refine wl_opG (k := 5) (k' := 6) rfl rfl ⟨_, _, _, rfl, rfl, rfl, rfl⟩ rfl (wo_run rfl rfl (run_lss rfl rfl rfl) ?_)
      refine wlo 6 7 rfl rfl rfl (wo_run rfl rfl (run_pickT rfl rfl rfl) ?_)
      refine wla 7 8 rfl rfl rfl rfl rfl rfl rfl ?_
      refine wl_end rfl ?_
      refine nm_sub [(3, _), (10, _), (11, _), (12, _), (5, _), (4, _), (27, _)] ⟨rfl, rfl, rfl, rfl, rfl, rfl, rfl, trivial⟩ ?_
      refine nm_thn ?_
      refine ws_condN text_n50 text_n51 rfl rfl rfl rfl (fun hb27 => ?_) (fun hb27 => ?_)
      ·replace hb27 := of_decide_eq_true hb27
       refine ws_region rfl ?_
       refine wlm 0 1 rfl rfl rfl rfl rfl rfl rfl ?_
       refine wlo 1 2 rfl rfl rfl (wo_run rfl rfl (run_addS rfl rfl rfl ((by (try simp only [List.length_append, List.length_cons, List.length_nil]); first | omega | (simp only [lens]; omega)))) ?_)
       refine wla 2 3 rfl rfl rfl rfl rfl rfl rfl ?_
       refine wl_end rfl ?_
       refine nm_blk ?_
       refine nm_sub [(3, _), (10, _), (11, _), (12, _), (5, _)] ⟨rfl, rfl, rfl, rfl, rfl, trivial⟩ ?_
       refine nm_thn ?_
       refine ws_seqN text_n37 text_n38 rfl rfl rfl ?_
       refine ws_region rfl ?_
       refine wlo 0 1 rfl rfl rfl (wo_run rfl rfl (run_fieldAddr rfl rfl Tryd.underlying38 rfl (ce3) (nf3)) ?_)
       refine wlo 1 2 rfl rfl rfl (wo_run rfl rfl (run_load1 rfl rfl Tryd.underlying3 rfl (S3.boxc (i := 0) rfl rfl)) ?_)
       refine wlo 2 3 rfl rfl rfl (wo_run rfl rfl (run_fieldAddr rfl rfl Tryd.underlying38 rfl (ce3) (nf3)) ?_)
       refine wlo 3 4 rfl rfl rfl (wo_run rfl rfl (run_load1 rfl rfl Tryd.underlying3 rfl (S3.boxc (i := 0) rfl rfl)) ?_)
       refine wlo 4 5 rfl rfl rfl (wo_run rfl rfl (run_neg rfl rfl (by first | omega | (simp only [lens]; omega))) ?_)
       refine wlo 5 6 rfl rfl rfl (wo_run rfl rfl (run_max rfl rfl rfl rfl rfl) ?_)
       refine wla 6 7 rfl rfl rfl rfl rfl rfl rfl ?_
       refine wl_end rfl ?_
       refine nm_sub [(3, _), (10, _), (11, _), (12, _), (5, _), (6, _)] ⟨rfl, rfl, rfl, rfl, rfl, rfl, trivial⟩ ?_
       refine nm_thn ?_
       refine ws_blockN text_n39 3 rfl rfl rfl ?_
       refine ws_seqN text_n40 text_n41 rfl rfl rfl ?_
       refine ws_region rfl ?_
       refine wlo 0 1 rfl rfl rfl (wo_run rfl rfl (run_fieldAddr rfl rfl Tryd.underlying38 rfl (ce3) (nf3)) ?_)
       refine wlo 1 2 rfl rfl rfl (wo_run rfl rfl (run_load1 rfl rfl Tryd.underlying3 rfl (S3.boxc (i := 0) rfl rfl)) ?_)
       refine wlo 2 3 rfl rfl rfl (wo_run rfl rfl (run_eql rfl rfl rfl) ?_)
       refine wla 3 4 rfl rfl rfl rfl rfl rfl rfl ?_
       refine wl_end rfl ?_
       refine nm_sub [(3, _), (10, _), (11, _), (12, _), (5, _), (6, _), (57, _)] ⟨rfl, rfl, rfl, rfl, rfl, rfl, rfl, trivial⟩ ?_
       refine nm_thn ?_
       refine ws_condN text_n42 text_n43 rfl rfl rfl rfl (fun hb57 => ?_) (fun hb57 => ?_)
       ·replace hb57 := of_decide_eq_true hb57
        refine ws_region rfl ?_
        refine wlm 0 1 rfl rfl rfl rfl rfl rfl rfl ?_
        refine wlm 1 2 rfl rfl rfl rfl rfl rfl rfl ?_
        refine wlo 2 3 rfl rfl rfl (wo_cq rfl rfl rfl rfl rfl rfl rfl cf31 S3 (itoa_t (max ((ga a i).c) (-((ga a i).c))) (by omega) (htb.mono S3.un_XH) S3.lend) ?_)
        rintro _ w30 S30 rfl; clear S3
        refine wlo 3 4 rfl rfl rfl (wo_run rfl rfl (run_addS rfl rfl rfl ((by (try simp only [List.length_append, List.length_cons, List.length_nil]); first | omega | (simp only [lens]; omega)))) ?_)
        refine wla 4 5 rfl rfl rfl rfl rfl rfl rfl ?_
        refine wl_end rfl ?_
        refine nm_blk ?_
        refine nm_blk ?_
        refine nm_sub [(3, _), (10, _), (11, _), (12, _)] ⟨rfl, rfl, rfl, rfl, trivial⟩ ?_
        refine nm_thn ?_
        refine ws_region rfl ?_
        refine wlo 0 1 rfl rfl rfl (wo_run rfl rfl (run_add rfl rfl rfl (by first | omega | (simp only [lens]; omega))) ?_)
        refine wlm 1 2 rfl rfl rfl rfl rfl rfl rfl ?_
        refine wl_end rfl ?_
        refine nm_lp ?_
        intro ax_ hax_
        refine ⟨_, ?hq8m, ⟨i + 1, ((s9 ++ ([32, 45, 32] : List UInt8)) ++ (Lib.itoa (max ((ga a i).c) (-((ga a i).c))))), rfl, hax_.sub ⟨rfl, rfl, rfl, rfl, trivial⟩, S30.pick [] [] (by decide) trivial, ?hq8f0, ?hq8f1⟩⟩
        case hq8f0 => omega
        case hq8f1 => (rw [polT, ← hs9]; (first | rw [sgT_00 (by omega) (by omega)] | rw [sgT_01 (by omega) (by omega)] | rw [sgT_10 (by omega) (by omega)] | rw [sgT_11 (by omega) (by omega)]); (first | rw [bodyT_0 (by omega)] | rw [bodyT_1 (by omega) (by omega)] | rw [bodyT_2 (by omega) (by omega)]); all_goals (first | rfl | (rw [hit]; done) | (rw [hit]; rfl) | (rw [List.append_nil]; done) | (rw [List.append_nil]; rfl) | (rw [hit, List.append_nil]; done) | (rw [hit, List.append_nil]; rfl)))
        case hq8m => omega
       ·replace hb57 := of_decide_eq_false hb57
        refine ws_seqN text_n44 text_n45 rfl rfl rfl ?_
        refine ws_region rfl ?_
        refine wlm 0 1 rfl rfl rfl rfl rfl rfl rfl ?_
        refine wlo 1 2 rfl rfl rfl (wo_run rfl rfl (run_eql rfl rfl rfl) ?_)
        refine wla 2 3 rfl rfl rfl rfl rfl rfl rfl ?_
        refine wl_end rfl ?_
        refine nm_sub [(3, _), (10, _), (11, _), (12, _), (5, _), (6, _), (65, _)] ⟨rfl, rfl, rfl, rfl, rfl, rfl, rfl, trivial⟩ ?_
        refine nm_thn ?_
        refine ws_condN text_n46 text_n47 rfl rfl rfl rfl (fun hb65 => ?_) (fun hb65 => ?_)
        ·replace hb65 := of_decide_eq_true hb65
         refine ws_region rfl ?_
         refine wlm 0 1 rfl rfl rfl rfl rfl rfl rfl ?_
         refine wlo 1 2 rfl rfl rfl (wo_run rfl rfl (run_fieldAddr rfl rfl Tryd.underlying38 rfl (ce3) (nf3)) ?_)
         refine wlo 2 3 rfl rfl rfl (wo_run rfl rfl (run_load1 rfl rfl Tryd.underlying3 rfl (S3.boxc (i := 0) rfl rfl)) ?_)
         refine wlo 3 4 rfl rfl rfl (wo_cq rfl rfl rfl rfl rfl rfl rfl cf32 S3 (power_q ((ga a i).e) (by omega) (htb.mono S3.un_XH) S3.lend) ?_)
         rintro _ w31 S31 rfl; clear S3
         refine wlo 4 5 rfl rfl rfl (wo_run rfl rfl (run_addS rfl rfl rfl ((by (try simp only [List.length_append, List.length_cons, List.length_nil]); first | omega | (simp only [lens]; omega)))) ?_)
         refine wla 5 6 rfl rfl rfl rfl rfl rfl rfl ?_
         refine wl_end rfl ?_
         refine nm_blk ?_
         refine nm_blk ?_
         refine nm_sub [(3, _), (10, _), (11, _), (12, _)] ⟨rfl, rfl, rfl, rfl, trivial⟩ ?_
         refine nm_thn ?_
         refine ws_region rfl ?_
         refine wlo 0 1 rfl rfl rfl (wo_run rfl rfl (run_add rfl rfl rfl (by first | omega | (simp only [lens]; omega))) ?_)
         refine wlm 1 2 rfl rfl rfl rfl rfl rfl rfl ?_
         refine wl_end rfl ?_
         refine nm_lp ?_
         intro ax_ hax_
         refine ⟨_, ?hq9m, ⟨i + 1, ((s9 ++ ([32, 45, 32] : List UInt8)) ++ (powT ((ga a i).e))), rfl, hax_.sub ⟨rfl, rfl, rfl, rfl, trivial⟩, S31.pick [] [] (by decide) trivial, ?hq9f0, ?hq9f1⟩⟩
         case hq9f0 => omega
         case hq9f1 => (rw [polT, ← hs9]; (first | rw [sgT_00 (by omega) (by omega)] | rw [sgT_01 (by omega) (by omega)] | rw [sgT_10 (by omega) (by omega)] | rw [sgT_11 (by omega) (by omega)]); (first | rw [bodyT_0 (by omega)] | rw [bodyT_1 (by omega) (by omega)] | rw [bodyT_2 (by omega) (by omega)]); all_goals (first | rfl | (rw [hit]; done) | (rw [hit]; rfl) | (rw [List.append_nil]; done) | (rw [List.append_nil]; rfl) | (rw [hit, List.append_nil]; done) | (rw [hit, List.append_nil]; rfl)))
         case hq9m => omega
        ·replace hb65 := of_decide_eq_false hb65
         refine ws_draw rfl (by kernel_rfl) S3 10 rfl ?_
         clear S3
         refine wa_takeP (i := 0) (d := 48) 9 rfl (by kernel_rfl) (by kernel_rfl) (by kernel_rfl) rfl rfl rfl (fun w32 => run_move rfl rfl) ?_
         refine wa_takeP (i := 1) (d := 49) 8 rfl (by kernel_rfl) (by kernel_rfl) (by kernel_rfl) rfl rfl rfl (fun w33 => run_move rfl rfl) ?_
         refine wa_take (i := 2) (d := 50) 7 rfl (by kernel_rfl) (by kernel_rfl) (by kernel_rfl) rfl rfl rfl (fun M23 N23 w34 hle24 S34 => yield_cq rfl rfl rfl rfl rfl cf31 S34 (itoa_t (max ((ga a i).c) (-((ga a i).c))) (by omega) ((htb.mono (Hp.un_mono hle24 S34.mx)).mono S34.un_XH) S34.lend)) ?_
         refine wa_takeP (i := 3) (d := 51) 6 rfl (by kernel_rfl) (by kernel_rfl) (by kernel_rfl) rfl rfl rfl (fun w35 => run_addS rfl rfl rfl ((by (try simp only [List.length_append, List.length_cons, List.length_nil]); first | omega | (simp only [lens]; omega)))) ?_
         refine wa_takeP (i := 4) (d := 52) 5 rfl (by kernel_rfl) (by kernel_rfl) (by kernel_rfl) rfl rfl rfl (fun w36 => run_fieldAddr rfl rfl Tryd.underlying38 rfl (ce3) (nf3)) ?_
         refine wa_take (i := 5) (d := 53) 4 rfl (by kernel_rfl) (by kernel_rfl) (by kernel_rfl) rfl rfl rfl (fun M26 N26 w37 hle27 S37 => .inl (run_load1 rfl rfl Tryd.underlying3 rfl (S37.suf.boxc (i := 0) rfl rfl))) ?_
         refine wa_take (i := 6) (d := 54) 3 rfl (by kernel_rfl) (by kernel_rfl) (by kernel_rfl) rfl rfl rfl (fun M27 N27 w38 hle28 S38 => yield_cq rfl rfl rfl rfl rfl cf32 S38 (power_q ((ga a i).e) (by omega) ((htb.mono (Hp.un_mono hle28 S38.mx)).mono S38.un_XH) S38.lend)) ?_
         refine wa_takeP (i := 7) (d := 55) 2 rfl (by kernel_rfl) (by kernel_rfl) (by kernel_rfl) rfl rfl rfl (fun w39 => run_addS rfl rfl rfl ((by (try simp only [List.length_append, List.length_cons, List.length_nil]); first | omega | (simp only [lens]; omega)))) ?_
         refine wa_takeP (i := 8) (d := 56) 1 rfl (by kernel_rfl) (by kernel_rfl) (by kernel_rfl) rfl rfl rfl (fun w40 => run_addS rfl rfl rfl ((by (try simp only [List.length_append, List.length_cons, List.length_nil]); first | omega | (simp only [lens]; omega)))) ?_
         refine wa_takeP (i := 9) (d := 3) 0 rfl (by kernel_rfl) (by kernel_rfl) (by kernel_rfl) rfl rfl rfl (fun w41 => run_assign rfl rfl) ?_
         refine wa_end (by kernel_rfl) (fun w42 S42 => ?_)
         refine nm_blk ?_
         refine nm_blk ?_
         refine nm_sub [(3, _), (10, _), (11, _), (12, _)] ⟨rfl, rfl, rfl, rfl, trivial⟩ ?_
         refine nm_thn ?_
         refine ws_region rfl ?_
         refine wlo 0 1 rfl rfl rfl (wo_run rfl rfl (run_add rfl rfl rfl (by first | omega | (simp only [lens]; omega))) ?_)
         refine wlm 1 2 rfl rfl rfl rfl rfl rfl rfl ?_
         refine wl_end rfl ?_
         refine nm_lp ?_
         intro ax_ hax_
         refine ⟨_, ?hq10m, ⟨i + 1, ((s9 ++ ([32, 45, 32] : List UInt8)) ++ (((Lib.itoa (max ((ga a i).c) (-((ga a i).c)))) ++ ([42] : List UInt8)) ++ (powT ((ga a i).e)))), rfl, hax_.sub ⟨rfl, rfl, rfl, rfl, trivial⟩, S42.pick [] [] (by decide) trivial, ?hq10f0, ?hq10f1⟩⟩
         case hq10f0 => omega
         case hq10f1 => (rw [polT, ← hs9]; (first | rw [sgT_00 (by omega) (by omega)] | rw [sgT_01 (by omega) (by omega)] | rw [sgT_10 (by omega) (by omega)] | rw [sgT_11 (by omega) (by omega)]); (first | rw [bodyT_0 (by omega)] | rw [bodyT_1 (by omega) (by omega)] | rw [bodyT_2 (by omega) (by omega)]); all_goals (first | rfl | (rw [hit]; done) | (rw [hit]; rfl) | (rw [List.append_nil]; done) | (rw [List.append_nil]; rfl) | (rw [hit, List.append_nil]; done) | (rw [hit, List.append_nil]; rfl)))
         case hq10m => omega
      ·replace hb27 := of_decide_eq_false hb27
       refine ws_seqN text_n52 text_n53 rfl rfl rfl ?_
       refine ws_region rfl ?_
       refine wlm 0 1 rfl rfl rfl rfl rfl rfl rfl ?_
       refine wlo 1 2 rfl rfl rfl (wo_run rfl rfl (run_gtr rfl rfl rfl) ?_)
       refine wla 2 3 rfl rfl rfl rfl rfl rfl rfl ?_
       refine wl_end rfl ?_
       refine nm_sub [(3, _), (10, _), (11, _), (12, _), (5, _), (37, _)] ⟨rfl, rfl, rfl, rfl, rfl, rfl, trivial⟩ ?_
       refine nm_thn ?_
       refine ws_condN text_n54 text_n55 rfl rfl rfl rfl (fun hb37 => ?_) (fun hb37 => ?_)
       ·replace hb37 := of_decide_eq_true hb37
        refine ws_region rfl ?_
        refine wlm 0 1 rfl rfl rfl rfl rfl rfl rfl ?_
        refine wlo 1 2 rfl rfl rfl (wo_run rfl rfl (run_addS rfl rfl rfl ((by (try simp only [List.length_append, List.length_cons, List.length_nil]); first | omega | (simp only [lens]; omega)))) ?_)
        refine wla 2 3 rfl rfl rfl rfl rfl rfl rfl ?_
        refine wl_end rfl ?_
        refine nm_blk ?_
        refine nm_sub [(3, _), (10, _), (11, _), (12, _), (5, _)] ⟨rfl, rfl, rfl, rfl, rfl, trivial⟩ ?_
        refine nm_thn ?_
        refine ws_seqN text_n37 text_n38 rfl rfl rfl ?_
        refine ws_region rfl ?_
        refine wlo 0 1 rfl rfl rfl (wo_run rfl rfl (run_fieldAddr rfl rfl Tryd.underlying38 rfl (ce3) (nf3)) ?_)
        refine wlo 1 2 rfl rfl rfl (wo_run rfl rfl (run_load1 rfl rfl Tryd.underlying3 rfl (S3.boxc (i := 0) rfl rfl)) ?_)
        refine wlo 2 3 rfl rfl rfl (wo_run rfl rfl (run_fieldAddr rfl rfl Tryd.underlying38 rfl (ce3) (nf3)) ?_)
        refine wlo 3 4 rfl rfl rfl (wo_run rfl rfl (run_load1 rfl rfl Tryd.underlying3 rfl (S3.boxc (i := 0) rfl rfl)) ?_)
        refine wlo 4 5 rfl rfl rfl (wo_run rfl rfl (run_neg rfl rfl (by first | omega | (simp only [lens]; omega))) ?_)
        refine wlo 5 6 rfl rfl rfl (wo_run rfl rfl (run_max rfl rfl rfl rfl rfl) ?_)
        refine wla 6 7 rfl rfl rfl rfl rfl rfl rfl ?_
        refine wl_end rfl ?_
        refine nm_sub [(3, _), (10, _), (11, _), (12, _), (5, _), (6, _)] ⟨rfl, rfl, rfl, rfl, rfl, rfl, trivial⟩ ?_
        refine nm_thn ?_
        refine ws_blockN text_n39 3 rfl rfl rfl ?_
        refine ws_seqN text_n40 text_n41 rfl rfl rfl ?_
        refine ws_region rfl ?_
        refine wlo 0 1 rfl rfl rfl (wo_run rfl rfl (run_fieldAddr rfl rfl Tryd.underlying38 rfl (ce3) (nf3)) ?_)
        refine wlo 1 2 rfl rfl rfl (wo_run rfl rfl (run_load1 rfl rfl Tryd.underlying3 rfl (S3.boxc (i := 0) rfl rfl)) ?_)
        refine wlo 2 3 rfl rfl rfl (wo_run rfl rfl (run_eql rfl rfl rfl) ?_)
        refine wla 3 4 rfl rfl rfl rfl rfl rfl rfl ?_
        refine wl_end rfl ?_
        refine nm_sub [(3, _), (10, _), (11, _), (12, _), (5, _), (6, _), (57, _)] ⟨rfl, rfl, rfl, rfl, rfl, rfl, rfl, trivial⟩ ?_
        refine nm_thn ?_
        refine ws_condN text_n42 text_n43 rfl rfl rfl rfl (fun hb57 => ?_) (fun hb57 => ?_)
        ·replace hb57 := of_decide_eq_true hb57
         refine ws_region rfl ?_
         refine wlm 0 1 rfl rfl rfl rfl rfl rfl rfl ?_
         refine wlm 1 2 rfl rfl rfl rfl rfl rfl rfl ?_
         refine wlo 2 3 rfl rfl rfl (wo_cq rfl rfl rfl rfl rfl rfl rfl cf31 S3 (itoa_t (max ((ga a i).c) (-((ga a i).c))) (by omega) (htb.mono S3.un_XH) S3.lend) ?_)
         rintro _ w43 S43 rfl; clear S3
         refine wlo 3 4 rfl rfl rfl (wo_run rfl rfl (run_addS rfl rfl rfl ((by (try simp only [List.length_append, List.length_cons, List.length_nil]); first | omega | (simp only [lens]; omega)))) ?_)
         refine wla 4 5 rfl rfl rfl rfl rfl rfl rfl ?_
         refine wl_end rfl ?_
         refine nm_blk ?_
         refine nm_blk ?_
         refine nm_sub [(3, _), (10, _), (11, _), (12, _)] ⟨rfl, rfl, rfl, rfl, trivial⟩ ?_
         refine nm_thn ?_
         refine ws_region rfl ?_
         refine wlo 0 1 rfl rfl rfl (wo_run rfl rfl (run_add rfl rfl rfl (by first | omega | (simp only [lens]; omega))) ?_)
         refine wlm 1 2 rfl rfl rfl rfl rfl rfl rfl ?_
         refine wl_end rfl ?_
         refine nm_lp ?_
         intro ax_ hax_
         refine ⟨_, ?hq11m, ⟨i + 1, ((s9 ++ ([32, 43, 32] : List UInt8)) ++ (Lib.itoa (max ((ga a i).c) (-((ga a i).c))))), rfl, hax_.sub ⟨rfl, rfl, rfl, rfl, trivial⟩, S43.pick [] [] (by decide) trivial, ?hq11f0, ?hq11f1⟩⟩
         case hq11f0 => omega
         case hq11f1 => (rw [polT, ← hs9]; (first | rw [sgT_00 (by omega) (by omega)] | rw [sgT_01 (by omega) (by omega)] | rw [sgT_10 (by omega) (by omega)] | rw [sgT_11 (by omega) (by omega)]); (first | rw [bodyT_0 (by omega)] | rw [bodyT_1 (by omega) (by omega)] | rw [bodyT_2 (by omega) (by omega)]); all_goals (first | rfl | (rw [hit]; done) | (rw [hit]; rfl) | (rw [List.append_nil]; done) | (rw [List.append_nil]; rfl) | (rw [hit, List.append_nil]; done) | (rw [hit, List.append_nil]; rfl)))
         case hq11m => omega
        ·replace hb57 := of_decide_eq_false hb57
         refine ws_seqN text_n44 text_n45 rfl rfl rfl ?_
         refine ws_region rfl ?_
         refine wlm 0 1 rfl rfl rfl rfl rfl rfl rfl ?_
         refine wlo 1 2 rfl rfl rfl (wo_run rfl rfl (run_eql rfl rfl rfl) ?_)
         refine wla 2 3 rfl rfl rfl rfl rfl rfl rfl ?_
         refine wl_end rfl ?_
         refine nm_sub [(3, _), (10, _), (11, _), (12, _), (5, _), (6, _), (65, _)] ⟨rfl, rfl, rfl, rfl, rfl, rfl, rfl, trivial⟩ ?_
         refine nm_thn ?_
         refine ws_condN text_n46 text_n47 rfl rfl rfl rfl (fun hb65 => ?_) (fun hb65 => ?_)
         ·replace hb65 := of_decide_eq_true hb65
          refine ws_region rfl ?_
          refine wlm 0 1 rfl rfl rfl rfl rfl rfl rfl ?_
          refine wlo 1 2 rfl rfl rfl (wo_run rfl rfl (run_fieldAddr rfl rfl Tryd.underlying38 rfl (ce3) (nf3)) ?_)
          refine wlo 2 3 rfl rfl rfl (wo_run rfl rfl (run_load1 rfl rfl Tryd.underlying3 rfl (S3.boxc (i := 0) rfl rfl)) ?_)
          refine wlo 3 4 rfl rfl rfl (wo_cq rfl rfl rfl rfl rfl rfl rfl cf32 S3 (power_q ((ga a i).e) (by omega) (htb.mono S3.un_XH) S3.lend) ?_)
          rintro _ w44 S44 rfl; clear S3
          refine wlo 4 5 rfl rfl rfl (wo_run rfl rfl (run_addS rfl rfl rfl ((by (try simp only [List.length_append, List.length_cons, List.length_nil]); first | omega | (simp only [lens]; omega)))) ?_)
          refine wla 5 6 rfl rfl rfl rfl rfl rfl rfl ?_
          refine wl_end rfl ?_
          refine nm_blk ?_
          refine nm_blk ?_
          refine nm_sub [(3, _), (10, _), (11, _), (12, _)] ⟨rfl, rfl, rfl, rfl, trivial⟩ ?_
          refine nm_thn ?_
          refine ws_region rfl ?_
          refine wlo 0 1 rfl rfl rfl (wo_run rfl rfl (run_add rfl rfl rfl (by first | omega | (simp only [lens]; omega))) ?_)
          refine wlm 1 2 rfl rfl rfl rfl rfl rfl rfl ?_
          refine wl_end rfl ?_
          refine nm_lp ?_
          intro ax_ hax_
          refine ⟨_, ?hq12m, ⟨i + 1, ((s9 ++ ([32, 43, 32] : List UInt8)) ++ (powT ((ga a i).e))), rfl, hax_.sub ⟨rfl, rfl, rfl, rfl, trivial⟩, S44.pick [] [] (by decide) trivial, ?hq12f0, ?hq12f1⟩⟩
          case hq12f0 => omega
          case hq12f1 => (rw [polT, ← hs9]; (first | rw [sgT_00 (by omega) (by omega)] | rw [sgT_01 (by omega) (by omega)] | rw [sgT_10 (by omega) (by omega)] | rw [sgT_11 (by omega) (by omega)]); (first | rw [bodyT_0 (by omega)] | rw [bodyT_1 (by omega) (by omega)] | rw [bodyT_2 (by omega) (by omega)]); all_goals (first | rfl | (rw [hit]; done) | (rw [hit]; rfl) | (rw [List.append_nil]; done) | (rw [List.append_nil]; rfl) | (rw [hit, List.append_nil]; done) | (rw [hit, List.append_nil]; rfl)))
          case hq12m => omega
         ·replace hb65 := of_decide_eq_false hb65
          refine ws_draw rfl (by kernel_rfl) S3 10 rfl ?_
          clear S3
          refine wa_takeP (i := 0) (d := 48) 9 rfl (by kernel_rfl) (by kernel_rfl) (by kernel_rfl) rfl rfl rfl (fun w45 => run_move rfl rfl) ?_
          refine wa_takeP (i := 1) (d := 49) 8 rfl (by kernel_rfl) (by kernel_rfl) (by kernel_rfl) rfl rfl rfl (fun w46 => run_move rfl rfl) ?_
          refine wa_take (i := 2) (d := 50) 7 rfl (by kernel_rfl) (by kernel_rfl) (by kernel_rfl) rfl rfl rfl (fun M33 N33 w47 hle34 S47 => yield_cq rfl rfl rfl rfl rfl cf31 S47 (itoa_t (max ((ga a i).c) (-((ga a i).c))) (by omega) ((htb.mono (Hp.un_mono hle34 S47.mx)).mono S47.un_XH) S47.lend)) ?_
          refine wa_takeP (i := 3) (d := 51) 6 rfl (by kernel_rfl) (by kernel_rfl) (by kernel_rfl) rfl rfl rfl (fun w48 => run_addS rfl rfl rfl ((by (try simp only [List.length_append, List.length_cons, List.length_nil]); first | omega | (simp only [lens]; omega)))) ?_
          refine wa_takeP (i := 4) (d := 52) 5 rfl (by kernel_rfl) (by kernel_rfl) (by kernel_rfl) rfl rfl rfl (fun w49 => run_fieldAddr rfl rfl Tryd.underlying38 rfl (ce3) (nf3)) ?_
          refine wa_take (i := 5) (d := 53) 4 rfl (by kernel_rfl) (by kernel_rfl) (by kernel_rfl) rfl rfl rfl (fun M36 N36 w50 hle37 S50 => .inl (run_load1 rfl rfl Tryd.underlying3 rfl (S50.suf.boxc (i := 0) rfl rfl))) ?_
          refine wa_take (i := 6) (d := 54) 3 rfl (by kernel_rfl) (by kernel_rfl) (by kernel_rfl) rfl rfl rfl (fun M37 N37 w51 hle38 S51 => yield_cq rfl rfl rfl rfl rfl cf32 S51 (power_q ((ga a i).e) (by omega) ((htb.mono (Hp.un_mono hle38 S51.mx)).mono S51.un_XH) S51.lend)) ?_
          refine wa_takeP (i := 7) (d := 55) 2 rfl (by kernel_rfl) (by kernel_rfl) (by kernel_rfl) rfl rfl rfl (fun w52 => run_addS rfl rfl rfl ((by (try simp only [List.length_append, List.length_cons, List.length_nil]); first | omega | (simp only [lens]; omega)))) ?_
          refine wa_takeP (i := 8) (d := 56) 1 rfl (by kernel_rfl) (by kernel_rfl) (by kernel_rfl) rfl rfl rfl (fun w53 => run_addS rfl rfl rfl ((by (try simp only [List.length_append, List.length_cons, List.length_nil]); first | omega | (simp only [lens]; omega)))) ?_
          refine wa_takeP (i := 9) (d := 3) 0 rfl (by kernel_rfl) (by kernel_rfl) (by kernel_rfl) rfl rfl rfl (fun w54 => run_assign rfl rfl) ?_
          refine wa_end (by kernel_rfl) (fun w55 S55 => ?_)
          refine nm_blk ?_
          refine nm_blk ?_
          refine nm_sub [(3, _), (10, _), (11, _), (12, _)] ⟨rfl, rfl, rfl, rfl, trivial⟩ ?_
          refine nm_thn ?_
          refine ws_region rfl ?_
          refine wlo 0 1 rfl rfl rfl (wo_run rfl rfl (run_add rfl rfl rfl (by first | omega | (simp only [lens]; omega))) ?_)
          refine wlm 1 2 rfl rfl rfl rfl rfl rfl rfl ?_
          refine wl_end rfl ?_
          refine nm_lp ?_
          intro ax_ hax_
          refine ⟨_, ?hq13m, ⟨i + 1, ((s9 ++ ([32, 43, 32] : List UInt8)) ++ (((Lib.itoa (max ((ga a i).c) (-((ga a i).c)))) ++ ([42] : List UInt8)) ++ (powT ((ga a i).e)))), rfl, hax_.sub ⟨rfl, rfl, rfl, rfl, trivial⟩, S55.pick [] [] (by decide) trivial, ?hq13f0, ?hq13f1⟩⟩
          case hq13f0 => omega
          case hq13f1 => (rw [polT, ← hs9]; (first | rw [sgT_00 (by omega) (by omega)] | rw [sgT_01 (by omega) (by omega)] | rw [sgT_10 (by omega) (by omega)] | rw [sgT_11 (by omega) (by omega)]); (first | rw [bodyT_0 (by omega)] | rw [bodyT_1 (by omega) (by omega)] | rw [bodyT_2 (by omega) (by omega)]); all_goals (first | rfl | (rw [hit]; done) | (rw [hit]; rfl) | (rw [List.append_nil]; done) | (rw [List.append_nil]; rfl) | (rw [hit, List.append_nil]; done) | (rw [hit, List.append_nil]; rfl)))
          case hq13m => omega
       ·replace hb37 := of_decide_eq_false hb37
        exfalso; omega
     ·replace hg30 := of_decide_eq_false hg30
      exfalso; omega
   ·replace hb13 := of_decide_eq_false hb13
    refine ws_exit rfl rfl ?_
    refine nm_sub [(3, _)] ⟨rfl, trivial⟩ ?_
    refine nm_thn ?_
    refine ws_seqN text_n56 text_n57 rfl rfl rfl ?_
    refine ws_region rfl ?_
    refine wlm 0 1 rfl rfl rfl rfl rfl rfl rfl ?_
    refine wla 1 2 rfl rfl rfl rfl rfl rfl rfl ?_
    refine wl_end rfl ?_
    refine nm_sub [(2, _)] ⟨rfl, trivial⟩ ?_
    refine nm_thn ?_
    refine ws_ret hC [_] rfl rfl ⟨rfl, trivial⟩ ?_
    exact ⟨_, rfl, (S1.pick [] [] (by decide) trivial), (by unfold texT; rw [if_neg (by omega), show a.length = i by omega, ← hs9]; rfl)⟩
end Go.Proofs.YtklcecpjgingpaaDoor
