/- Part 7 of the proof of the law ColourCounts: the walks through its functions and the plain laws that they need. -/
import Derived.Test.YtefkjfcncpmneaaCcZ6
import Derived.Maps.RangeRun
import Derived.Lib.AppendZeros
set_option linter.unusedSimpArgs false
set_option linter.unusedVariables false
namespace Go.Proofs.Ytefkjfcncpmneaa
open Go.ChangeShapes Go.WideShapes Go.ChangeAt Go.RowKit
def q2 (q : List (List Int)) (a b : Nat) : Int := ga (ga q a) b
/-- Each row is as long as the table, with colours only. -/
def QuF (q : List (List Int)) : Prop := 1 ≤ q.length ∧ q.length ≤ 4 ∧ ∀ a, a < q.length → (ga q a).length = q.length ∧ ∀ b, b < q.length → 0 ≤ q2 q a b ∧ q2 q a b < (q.length : Int)
def dstQ (q : List (List Int)) (a b c : Nat) : Prop := q2 q (q2 q a b).toNat c = q2 q (q2 q a c).toNat (q2 q b c).toNat
def cntQ (q : List (List Int)) (b c : Nat) : Nat → Nat
 | 0 => 0
 | a + 1 => cntQ q b c a + if q2 q a b = (c : Int) then 1 else 0
def kcQ (q : List (List Int)) (b c : Nat) : Prop := (∀ a, a < q.length → dstQ q a b c) ∧ cntQ q b c q.length = 1
def QuK (q : List (List Int)) : Prop := ∀ b, b < q.length → q2 q b b = (b : Int) ∧ ∀ c, c < q.length → kcQ q b c
open Classical in
noncomputable def quE (q : List (List Int)) : Int := if QuF q then if QuK q then 0 else 6 else 1
theorem quE_1 {q : List (List Int)} (h : ¬ QuF q) : quE q = 1 := by unfold quE; rw [if_neg h]
theorem quE_6 {q : List (List Int)} (h : QuF q) (hk : ¬ QuK q) : quE q = 6 := by unfold quE; rw [if_pos h, if_neg hk]
theorem quE_0 {q : List (List Int)} (h : QuF q) (hk : QuK q) : quE q = 0 := by unfold quE; rw [if_pos h, if_pos hk]
theorem cntQ_t {q : List (List Int)} {b c a : Nat} (h : ga (ga q a) b = (c : Int)) : ((cntQ q b c a : Nat) : Int) + 1 = ((cntQ q b c (a + 1) : Nat) : Int) := by
 have h1 : q2 q a b = (c : Int) := h
 show _ = (((cntQ q b c a + if q2 q a b = (c : Int) then 1 else 0 : Nat)) : Int)
 rw [if_pos h1]; rfl
theorem cntQ_f {q : List (List Int)} {b c a : Nat} (h : ¬ ga (ga q a) b = (c : Int)) : ((cntQ q b c a : Nat) : Int) = ((cntQ q b c (a + 1) : Nat) : Int) := by
 have h1 : ¬ q2 q a b = (c : Int) := h
 show _ = (((cntQ q b c a + if q2 q a b = (c : Int) then 1 else 0 : Nat)) : Int)
 rw [if_neg h1]; rfl
theorem cntQ_le (q : List (List Int)) (b c n : Nat) : cntQ q b c n ≤ n := by
 induction n with
 | zero => exact Nat.le_refl 0
 | succ n ih => rw [cntQ]; split <;> omega
noncomputable def QuandleMay_n0 : Code := Try.f24.body.getD .skip
noncomputable def QuandleMay_n1 : Code := cL QuandleMay_n0
noncomputable def QuandleMay_n2 : Code := cR QuandleMay_n0
noncomputable def QuandleMay_n3 : Code := cL QuandleMay_n2
noncomputable def QuandleMay_n4 : Code := cR QuandleMay_n2
noncomputable def QuandleMay_n5 : Code := cL QuandleMay_n4
noncomputable def QuandleMay_n6 : Code := cR QuandleMay_n4
noncomputable def QuandleMay_n7 : Code := cL QuandleMay_n5
noncomputable def QuandleMay_n8 : Code := cR QuandleMay_n5
noncomputable def QuandleMay_n9 : Code := cL QuandleMay_n8
noncomputable def QuandleMay_n10 : Code := cR QuandleMay_n8
noncomputable def QuandleMay_n11 : Code := cL QuandleMay_n9
noncomputable def QuandleMay_n12 : Code := cR QuandleMay_n9
noncomputable def QuandleMay_n13 : Code := cL QuandleMay_n6
noncomputable def QuandleMay_n14 : Code := cR QuandleMay_n6
noncomputable def QuandleMay_n15 : Code := cL QuandleMay_n13
noncomputable def QuandleMay_n16 : Code := cR QuandleMay_n13
noncomputable def QuandleMay_n17 : Code := cL QuandleMay_n16
noncomputable def QuandleMay_n18 : Code := cL QuandleMay_n17
noncomputable def QuandleMay_n19 : Code := cL QuandleMay_n18
noncomputable def QuandleMay_n20 : Code := cR QuandleMay_n18
noncomputable def QuandleMay_n21 : Code := cL QuandleMay_n19
noncomputable def QuandleMay_n22 : Code := cR QuandleMay_n19
noncomputable def QuandleMay_n23 : Code := cL QuandleMay_n22
noncomputable def QuandleMay_n24 : Code := cR QuandleMay_n22
noncomputable def QuandleMay_n25 : Code := cL QuandleMay_n20
noncomputable def QuandleMay_n26 : Code := cR QuandleMay_n20
noncomputable def QuandleMay_n27 : Code := cL QuandleMay_n25
noncomputable def QuandleMay_n28 : Code := cL QuandleMay_n27
noncomputable def QuandleMay_n29 : Code := cR QuandleMay_n27
noncomputable def QuandleMay_n30 : Code := cL QuandleMay_n28
noncomputable def QuandleMay_n31 : Code := cR QuandleMay_n28
noncomputable def QuandleMay_n32 : Code := cL QuandleMay_n31
noncomputable def QuandleMay_n33 : Code := cR QuandleMay_n31
noncomputable def QuandleMay_n34 : Code := cL QuandleMay_n32
noncomputable def QuandleMay_n35 : Code := cR QuandleMay_n32
noncomputable def QuandleMay_n36 : Code := cL QuandleMay_n29
noncomputable def QuandleMay_n37 : Code := cR QuandleMay_n29
noncomputable def QuandleMay_n38 : Code := cL QuandleMay_n37
noncomputable def QuandleMay_n39 : Code := cL QuandleMay_n38
noncomputable def QuandleMay_n40 : Code := cL QuandleMay_n39
noncomputable def QuandleMay_n41 : Code := cR QuandleMay_n39
noncomputable def QuandleMay_n42 : Code := cL QuandleMay_n40
noncomputable def QuandleMay_n43 : Code := cR QuandleMay_n40
noncomputable def QuandleMay_n44 : Code := cL QuandleMay_n43
noncomputable def QuandleMay_n45 : Code := cR QuandleMay_n43
noncomputable def QuandleMay_n46 : Code := cL QuandleMay_n41
noncomputable def QuandleMay_n47 : Code := cR QuandleMay_n41
noncomputable def QuandleMay_n48 : Code := cL QuandleMay_n46
noncomputable def QuandleMay_n49 : Code := cL QuandleMay_n48
noncomputable def QuandleMay_n50 : Code := cR QuandleMay_n48
noncomputable def QuandleMay_n51 : Code := cL QuandleMay_n50
noncomputable def QuandleMay_n52 : Code := cR QuandleMay_n50
noncomputable def QuandleMay_n53 : Code := cL QuandleMay_n51
noncomputable def QuandleMay_n54 : Code := cR QuandleMay_n51
noncomputable def QuandleMay_n55 : Code := cL QuandleMay_n14
noncomputable def QuandleMay_n56 : Code := cR QuandleMay_n14
noncomputable def QuandleMay_n57 : Code := cL QuandleMay_n55
noncomputable def QuandleMay_n58 : Code := cR QuandleMay_n55
noncomputable def QuandleMay_n59 : Code := cL QuandleMay_n58
noncomputable def QuandleMay_n60 : Code := cL QuandleMay_n59
noncomputable def QuandleMay_n61 : Code := cL QuandleMay_n60
noncomputable def QuandleMay_n62 : Code := cR QuandleMay_n60
noncomputable def QuandleMay_n63 : Code := cL QuandleMay_n61
noncomputable def QuandleMay_n64 : Code := cR QuandleMay_n61
noncomputable def QuandleMay_n65 : Code := cL QuandleMay_n64
noncomputable def QuandleMay_n66 : Code := cR QuandleMay_n64
noncomputable def QuandleMay_n67 : Code := cL QuandleMay_n62
noncomputable def QuandleMay_n68 : Code := cR QuandleMay_n62
noncomputable def QuandleMay_n69 : Code := cL QuandleMay_n67
noncomputable def QuandleMay_n70 : Code := cL QuandleMay_n69
noncomputable def QuandleMay_n71 : Code := cR QuandleMay_n69
noncomputable def QuandleMay_n72 : Code := cL QuandleMay_n70
noncomputable def QuandleMay_n73 : Code := cR QuandleMay_n70
noncomputable def QuandleMay_n74 : Code := cL QuandleMay_n73
noncomputable def QuandleMay_n75 : Code := cR QuandleMay_n73
noncomputable def QuandleMay_n76 : Code := cL QuandleMay_n74
noncomputable def QuandleMay_n77 : Code := cR QuandleMay_n74
noncomputable def QuandleMay_n78 : Code := cL QuandleMay_n71
noncomputable def QuandleMay_n79 : Code := cR QuandleMay_n71
noncomputable def QuandleMay_n80 : Code := cL QuandleMay_n79
noncomputable def QuandleMay_n81 : Code := cL QuandleMay_n80
noncomputable def QuandleMay_n82 : Code := cL QuandleMay_n81
noncomputable def QuandleMay_n83 : Code := cR QuandleMay_n81
noncomputable def QuandleMay_n84 : Code := cL QuandleMay_n82
noncomputable def QuandleMay_n85 : Code := cR QuandleMay_n82
noncomputable def QuandleMay_n86 : Code := cL QuandleMay_n85
noncomputable def QuandleMay_n87 : Code := cR QuandleMay_n85
noncomputable def QuandleMay_n88 : Code := cL QuandleMay_n83
noncomputable def QuandleMay_n89 : Code := cR QuandleMay_n83
noncomputable def QuandleMay_n90 : Code := cL QuandleMay_n88
noncomputable def QuandleMay_n91 : Code := cL QuandleMay_n90
noncomputable def QuandleMay_n92 : Code := cR QuandleMay_n90
noncomputable def QuandleMay_n93 : Code := cL QuandleMay_n92
noncomputable def QuandleMay_n94 : Code := cR QuandleMay_n92
noncomputable def QuandleMay_n95 : Code := cL QuandleMay_n93
noncomputable def QuandleMay_n96 : Code := cR QuandleMay_n93
noncomputable def QuandleMay_n97 : Code := cL QuandleMay_n96
noncomputable def QuandleMay_n98 : Code := cL QuandleMay_n97
noncomputable def QuandleMay_n99 : Code := cL QuandleMay_n98
noncomputable def QuandleMay_n100 : Code := cR QuandleMay_n98
noncomputable def QuandleMay_n101 : Code := cL QuandleMay_n99
noncomputable def QuandleMay_n102 : Code := cR QuandleMay_n99
noncomputable def QuandleMay_n103 : Code := cL QuandleMay_n102
noncomputable def QuandleMay_n104 : Code := cR QuandleMay_n102
noncomputable def QuandleMay_n105 : Code := cL QuandleMay_n100
noncomputable def QuandleMay_n106 : Code := cR QuandleMay_n100
noncomputable def QuandleMay_n107 : Code := cL QuandleMay_n105
noncomputable def QuandleMay_n108 : Code := cL QuandleMay_n107
noncomputable def QuandleMay_n109 : Code := cR QuandleMay_n107
noncomputable def QuandleMay_n110 : Code := cL QuandleMay_n108
noncomputable def QuandleMay_n111 : Code := cR QuandleMay_n108
noncomputable def QuandleMay_n112 : Code := cL QuandleMay_n111
noncomputable def QuandleMay_n113 : Code := cR QuandleMay_n111
noncomputable def QuandleMay_n114 : Code := cL QuandleMay_n109
noncomputable def QuandleMay_n115 : Code := cR QuandleMay_n109
noncomputable def QuandleMay_n116 : Code := cL QuandleMay_n115
noncomputable def QuandleMay_n117 : Code := cR QuandleMay_n115
noncomputable def QuandleMay_n118 : Code := cL QuandleMay_n116
noncomputable def QuandleMay_n119 : Code := cR QuandleMay_n116
noncomputable def QuandleMay_n120 : Code := cL QuandleMay_n94
noncomputable def QuandleMay_n121 : Code := cR QuandleMay_n94
noncomputable def QuandleMay_n122 : Code := cL QuandleMay_n121
noncomputable def QuandleMay_n123 : Code := cR QuandleMay_n121
noncomputable def QuandleMay_n124 : Code := cL QuandleMay_n122
noncomputable def QuandleMay_n125 : Code := cR QuandleMay_n122
noncomputable def QuandleMay_n126 : Code := cL QuandleMay_n56
noncomputable def QuandleMay_n127 : Code := cR QuandleMay_n56
set_option maxHeartbeats 2000000 in
set_option maxRecDepth 10000 in
theorem QuandleMay_q {w : World} {M : Hp} {X : Fr} (q : List (List Int)) {qA : Option Addr} {qc : Nat} {qv : List SlV} (hq : RdA (cdV 33) (M.un X.h) qA qc qv) (hdq : Rd2 cdInt (M.un X.h) qv q) (S : SH w M X []) : Cq Try.prog 24 [.slice qA qv.length qc] w M X (fun u => u = .int .i64 (quE q)) := by
 unfold Cq
 have rmhq : qv.length * 24 ≤ 140737488355328 := hq.room
 have hlq := hdq.1
 refine calls_in (b := QuandleMay_n0) Try.func24 rfl Try.ntmps24 rfl (fun C hC => ?_)
 refine ws_sub [(0, _)] ⟨rfl, trivial⟩ ?_
 refine ws_seqN QuandleMay_n1 QuandleMay_n2 rfl rfl rfl ?_
 refine ws_region rfl ?_
 refine wla 0 1 rfl rfl rfl rfl rfl rfl rfl ?_
 refine wl_end rfl ?_
 refine nm_sub [(0, _)] ⟨rfl, trivial⟩ ?_
 refine nm_thn ?_
 refine ws_seqN QuandleMay_n3 QuandleMay_n4 rfl rfl rfl ?_
 refine ws_region rfl ?_
 refine wlm 0 1 rfl rfl rfl rfl rfl rfl rfl ?_
 refine wlo 1 2 rfl rfl rfl (wo_run rfl rfl (run_len rfl rfl rfl rfl rfl rfl Try.underlying34) ?_)
 refine wla 2 3 rfl rfl rfl rfl rfl rfl rfl ?_
 refine wl_end rfl ?_
 refine nm_sub [(0, _), (3, _)] ⟨rfl, rfl, trivial⟩ ?_
 refine nm_thn ?_
 refine ws_seqN QuandleMay_n5 QuandleMay_n6 rfl rfl rfl ?_
 refine ws_seqN QuandleMay_n7 QuandleMay_n8 rfl rfl rfl ?_
 refine ws_region rfl ?_
 refine wlm 0 1 rfl rfl rfl rfl rfl rfl rfl ?_
 refine wlo 1 2 rfl rfl rfl (wo_run rfl rfl (run_lss rfl rfl rfl) ?_)
 refine wlm 2 3 rfl rfl rfl rfl rfl rfl rfl ?_
 refine wl_split (t := 14) rfl (fun hg14 => ?_) (fun hg14 => ?_)
 ·replace hg14 := of_decide_eq_true hg14
  refine wl_no (k := 3) (k' := 4) (d := 15) rfl rfl ⟨_, _, _, rfl, rfl, rfl, rfl⟩ rfl rfl ?_
  refine wl_no (k := 4) (k' := 5) (d := 16) rfl rfl ⟨_, _, _, rfl, rfl, rfl, rfl⟩ rfl rfl ?_
  refine wlo 5 6 rfl rfl rfl (wo_run rfl rfl (run_pickT rfl rfl rfl) ?_)
  refine wl_end rfl ?_
  refine nm_sub [(0, _), (3, _), (17, _)] ⟨rfl, rfl, rfl, trivial⟩ ?_
  refine nm_thn ?_
  refine ws_condTN QuandleMay_n9 rfl rfl rfl ?_
  refine ws_seqN QuandleMay_n11 QuandleMay_n12 rfl rfl rfl ?_
  refine ws_region rfl ?_
  refine wla 0 1 rfl rfl rfl rfl rfl rfl rfl ?_
  refine wl_end rfl ?_
  refine nm_sub [(2, _)] ⟨rfl, trivial⟩ ?_
  refine nm_thn ?_
  refine ws_ret hC [_] rfl rfl ⟨rfl, trivial⟩ ?_
  exact ⟨_, rfl, (S.pick [] [] (by decide) trivial), (congrArg (Value.int .i64) (quE_1 (fun h => by first | (have := h.1; have := h.2.1; omega) | (have := (h.2.2 a (by omega)).1; omega) | (have := (h.2.2 a (by omega)).2 b (by omega); unfold q2 at this; omega))).symm)⟩
 ·replace hg14 := of_decide_eq_false hg14
  refine wl_opG (k := 3) (k' := 4) rfl rfl ⟨_, _, _, rfl, rfl, rfl, rfl⟩ rfl (wo_run rfl rfl (run_move rfl rfl) ?_)
  refine wl_opG (k := 4) (k' := 5) rfl rfl ⟨_, _, _, rfl, rfl, rfl, rfl⟩ rfl (wo_run rfl rfl (run_gtr rfl rfl rfl) ?_)
  refine wlo 5 6 rfl rfl rfl (wo_run rfl rfl (run_pickF rfl rfl rfl) ?_)
  refine wl_end rfl ?_
  refine nm_sub [(0, _), (3, _), (17, _)] ⟨rfl, rfl, rfl, trivial⟩ ?_
  refine nm_thn ?_
  refine ws_condN QuandleMay_n9 QuandleMay_n10 rfl rfl rfl rfl (fun hb17 => ?_) (fun hb17 => ?_)
  ·replace hb17 := of_decide_eq_true hb17
   refine ws_seqN QuandleMay_n11 QuandleMay_n12 rfl rfl rfl ?_
   refine ws_region rfl ?_
   refine wla 0 1 rfl rfl rfl rfl rfl rfl rfl ?_
   refine wl_end rfl ?_
   refine nm_sub [(2, _)] ⟨rfl, trivial⟩ ?_
   refine nm_thn ?_
   refine ws_ret hC [_] rfl rfl ⟨rfl, trivial⟩ ?_
   exact ⟨_, rfl, (S.pick [] [] (by decide) trivial), (congrArg (Value.int .i64) (quE_1 (fun h => by first | (have := h.1; have := h.2.1; omega) | (have := (h.2.2 a (by omega)).1; omega) | (have := (h.2.2 a (by omega)).2 b (by omega); unfold q2 at this; omega))).symm)⟩
  ·replace hb17 := of_decide_eq_false hb17
   refine ws_skip rfl ?_
   refine nm_sub [(0, _), (3, _)] ⟨rfl, rfl, trivial⟩ ?_
   refine nm_thn ?_
   refine ws_seqN QuandleMay_n13 QuandleMay_n14 rfl rfl rfl ?_
   refine ws_seqN QuandleMay_n15 QuandleMay_n16 rfl rfl rfl ?_
   refine ws_region rfl ?_
   refine wla 0 1 rfl rfl rfl rfl rfl rfl rfl ?_
   refine wl_end rfl ?_
   refine nm_thn ?_
   refine ws_blockN QuandleMay_n17 0 rfl rfl rfl ?_
   refine ws_loopE (fun mx_ ax_ wx_ => ∃ (a : Nat), mx_ = q.length - a ∧ Env 124 [(0, .slice qA qv.length qc), (3, .int .i64 (qv.length : Int)), (4, .int .i64 (a : Int))] ax_ ∧ SH wx_ M X [] ∧ a ≤ q.length ∧ (∀ i, i < a → (ga q i).length = q.length ∧ ∀ x, x < q.length → 0 ≤ q2 q i x ∧ q2 q i x < (q.length : Int))) rfl ?_ ?_
   ·intro ax_ hax_
    refine ⟨_, ⟨0, rfl, hax_.sub ⟨rfl, rfl, rfl, trivial⟩, S.pick [] [] (by decide) trivial, ?hq1f0, ?hq1f1⟩⟩
    case hq1f0 => omega
    case hq1f1 => (intro i hi; omega)
   ·rintro m1 a1 w1 ⟨a, rfl, he1, S1, ha, hF⟩
    clear S
    refine ws_in he1 (c := QuandleMay_n18) rfl ?_
    clear he1 a1
    refine ws_seqN QuandleMay_n19 QuandleMay_n20 rfl rfl rfl ?_
    refine ws_seqN QuandleMay_n21 QuandleMay_n22 rfl rfl rfl ?_
    refine ws_region rfl ?_
    refine wlm 0 1 rfl rfl rfl rfl rfl rfl rfl ?_
    refine wlm 1 2 rfl rfl rfl rfl rfl rfl rfl ?_
    refine wlo 2 3 rfl rfl rfl (wo_run rfl rfl (run_lss rfl rfl rfl) ?_)
    refine wl_end rfl ?_
    refine nm_sub [(0, _), (3, _), (4, _), (20, _)] ⟨rfl, rfl, rfl, rfl, trivial⟩ ?_
    refine nm_thn ?_
    refine ws_condN QuandleMay_n23 QuandleMay_n24 rfl rfl rfl rfl (fun hb20 => ?_) (fun hb20 => ?_)
    ·replace hb20 := of_decide_eq_true hb20
     refine ws_skip rfl ?_
     refine nm_sub [(0, _), (3, _), (4, _)] ⟨rfl, rfl, rfl, trivial⟩ ?_
     refine nm_thn ?_
     refine ws_seqN QuandleMay_n25 QuandleMay_n26 rfl rfl rfl ?_
     refine ws_blockN QuandleMay_n27 1 rfl rfl rfl ?_
     refine ws_seqN QuandleMay_n28 QuandleMay_n29 rfl rfl rfl ?_
     refine ws_seqN QuandleMay_n30 QuandleMay_n31 rfl rfl rfl ?_
     refine ws_region rfl ?_
     refine wlm 0 1 rfl rfl rfl rfl rfl rfl rfl ?_
     refine wlm 1 2 rfl rfl rfl rfl rfl rfl rfl ?_
     refine wlo 2 3 rfl rfl rfl (wo_run rfl rfl (run_indexM (C := (cdV 33)) a rfl rfl rfl sl34 (by first | rfl | omega) hq (by first | omega | (simp only [lens]; omega))) ?_)
     obtain ⟨hn1, hr1⟩ := hdq.2 a (by first | omega | (simp only [lens]; omega))
     have rmhr1 : (ga q a).length * 8 ≤ 140737488355328 := hr1.room
     refine wlo 3 4 rfl rfl rfl (wo_run rfl rfl (run_load1 rfl rfl Try.underlying33 rfl (hq.cell S1.um (i := a) (by first | omega | (simp only [lens]; omega)) 0 rfl (congrArg (fun n => some (Value.slice _ n _)) hn1))) ?_)
     refine wlo 4 5 rfl rfl rfl (wo_run rfl rfl (run_len rfl rfl rfl rfl rfl rfl Try.underlying33) ?_)
     refine wlm 5 6 rfl rfl rfl rfl rfl rfl rfl ?_
     refine wlo 6 7 rfl rfl rfl (wo_run rfl rfl (run_neq rfl rfl rfl) ?_)
     refine wl_end rfl ?_
     refine nm_sub [(0, _), (3, _), (4, _), (29, _)] ⟨rfl, rfl, rfl, rfl, trivial⟩ ?_
     refine nm_thn ?_
     refine ws_condN QuandleMay_n32 QuandleMay_n33 rfl rfl rfl rfl (fun hb29 => ?_) (fun hb29 => ?_)
     ·replace hb29 := of_decide_eq_true hb29
      refine ws_seqN QuandleMay_n34 QuandleMay_n35 rfl rfl rfl ?_
      refine ws_region rfl ?_
      refine wla 0 1 rfl rfl rfl rfl rfl rfl rfl ?_
      refine wl_end rfl ?_
      refine nm_sub [(2, _)] ⟨rfl, trivial⟩ ?_
      refine nm_thn ?_
      refine ws_ret hC [_] rfl rfl ⟨rfl, trivial⟩ ?_
      exact ⟨_, rfl, (S1.pick [] [] (by decide) trivial), (congrArg (Value.int .i64) (quE_1 (fun h => by first | (have := h.1; have := h.2.1; omega) | (have := (h.2.2 a (by omega)).1; omega) | (have := (h.2.2 a (by omega)).2 b (by omega); unfold q2 at this; omega))).symm)⟩
     ·replace hb29 := of_decide_eq_false hb29
      refine ws_skip rfl ?_
      refine nm_sub [(0, _), (3, _), (4, _)] ⟨rfl, rfl, rfl, trivial⟩ ?_
      refine nm_thn ?_
      refine ws_seqN QuandleMay_n36 QuandleMay_n37 rfl rfl rfl ?_
      refine ws_region rfl ?_
      refine wla 0 1 rfl rfl rfl rfl rfl rfl rfl ?_
      refine wl_end rfl ?_
      refine nm_thn ?_
      refine ws_blockN QuandleMay_n38 2 rfl rfl rfl ?_
      refine ws_loopE (fun mx_ ax_ wx_ => ∃ (b : Nat), mx_ = q.length - b ∧ Env 124 [(0, .slice qA qv.length qc), (3, .int .i64 (qv.length : Int)), (4, .int .i64 (a : Int)), (5, .int .i64 (b : Int))] ax_ ∧ SH wx_ M X [] ∧ b ≤ q.length ∧ (∀ x, x < b → 0 ≤ q2 q a x ∧ q2 q a x < (q.length : Int))) rfl ?_ ?_
      ·intro ax_ hax_
       refine ⟨_, ⟨0, rfl, hax_.sub ⟨rfl, rfl, rfl, rfl, trivial⟩, S1.pick [] [] (by decide) trivial, ?hq2f0, ?hq2f1⟩⟩
       case hq2f0 => omega
       case hq2f1 => (intro i hi; omega)
      ·rintro m2 a2 w2 ⟨b, rfl, he2, S2, hb, hF1⟩
       clear S1
       refine ws_in he2 (c := QuandleMay_n39) rfl ?_
       clear he2 a2
       refine ws_seqN QuandleMay_n40 QuandleMay_n41 rfl rfl rfl ?_
       refine ws_seqN QuandleMay_n42 QuandleMay_n43 rfl rfl rfl ?_
       refine ws_region rfl ?_
       refine wlm 0 1 rfl rfl rfl rfl rfl rfl rfl ?_
       refine wlm 1 2 rfl rfl rfl rfl rfl rfl rfl ?_
       refine wlo 2 3 rfl rfl rfl (wo_run rfl rfl (run_lss rfl rfl rfl) ?_)
       refine wl_end rfl ?_
       refine nm_sub [(0, _), (3, _), (4, _), (5, _), (32, _)] ⟨rfl, rfl, rfl, rfl, rfl, trivial⟩ ?_
       refine nm_thn ?_
       refine ws_condN QuandleMay_n44 QuandleMay_n45 rfl rfl rfl rfl (fun hb32 => ?_) (fun hb32 => ?_)
       ·replace hb32 := of_decide_eq_true hb32
        refine ws_skip rfl ?_
        refine nm_sub [(0, _), (3, _), (4, _), (5, _)] ⟨rfl, rfl, rfl, rfl, trivial⟩ ?_
        refine nm_thn ?_
        refine ws_seqN QuandleMay_n46 QuandleMay_n47 rfl rfl rfl ?_
        refine ws_blockN QuandleMay_n48 3 rfl rfl rfl ?_
        refine ws_seqN QuandleMay_n49 QuandleMay_n50 rfl rfl rfl ?_
        refine ws_region rfl ?_
        refine wlm 0 1 rfl rfl rfl rfl rfl rfl rfl ?_
        refine wlm 1 2 rfl rfl rfl rfl rfl rfl rfl ?_
        refine wlo 2 3 rfl rfl rfl (wo_run rfl rfl (run_indexM (C := (cdV 33)) a rfl rfl rfl sl34 (by first | rfl | omega) hq (by first | omega | (simp only [lens]; omega))) ?_)
        obtain ⟨hn2, hr2⟩ := hdq.2 a (by first | omega | (simp only [lens]; omega))
        have rmhr2 : (ga q a).length * 8 ≤ 140737488355328 := hr2.room
        refine wlo 3 4 rfl rfl rfl (wo_run rfl rfl (run_load1 rfl rfl Try.underlying33 rfl (hq.cell S2.um (i := a) (by first | omega | (simp only [lens]; omega)) 0 rfl (congrArg (fun n => some (Value.slice _ n _)) hn2))) ?_)
        refine wlm 4 5 rfl rfl rfl rfl rfl rfl rfl ?_
        refine wlo 5 6 rfl rfl rfl (wo_run rfl rfl (run_indexM (C := cdInt) b rfl rfl rfl sl33 (by first | rfl | omega) hr2 (by first | omega | (simp only [lens]; omega))) ?_)
        refine wlo 6 7 rfl rfl rfl (wo_run rfl rfl (run_load1 rfl rfl Try.underlying3 rfl (hr2.cell S2.um (i := b) (by first | omega | (simp only [lens]; omega)) 0 rfl rfl)) ?_)
        refine wlo 7 8 rfl rfl rfl (wo_run rfl rfl (run_lss rfl rfl rfl) ?_)
        refine wlm 8 9 rfl rfl rfl rfl rfl rfl rfl ?_
        refine wl_split (t := 43) rfl (fun hg43 => ?_) (fun hg43 => ?_)
        ·replace hg43 := of_decide_eq_true hg43
         refine wl_no (k := 9) (k' := 10) (d := 44) rfl rfl ⟨_, _, _, rfl, rfl, rfl, rfl⟩ rfl rfl ?_
         refine wl_no (k := 10) (k' := 11) (d := 45) rfl rfl ⟨_, _, _, rfl, rfl, rfl, rfl⟩ rfl rfl ?_
         refine wl_no (k := 11) (k' := 12) (d := 46) rfl rfl ⟨_, _, _, rfl, rfl, rfl, rfl⟩ rfl rfl ?_
         refine wl_no (k := 12) (k' := 13) (d := 47) rfl rfl ⟨_, _, _, rfl, rfl, rfl, rfl⟩ rfl rfl ?_
         refine wl_no (k := 13) (k' := 14) (d := 48) rfl rfl ⟨_, _, _, rfl, rfl, rfl, rfl⟩ rfl rfl ?_
         refine wl_no (k := 14) (k' := 15) (d := 49) rfl rfl ⟨_, _, _, rfl, rfl, rfl, rfl⟩ rfl rfl ?_
         refine wl_no (k := 15) (k' := 16) (d := 50) rfl rfl ⟨_, _, _, rfl, rfl, rfl, rfl⟩ rfl rfl ?_
         refine wl_no (k := 16) (k' := 17) (d := 51) rfl rfl ⟨_, _, _, rfl, rfl, rfl, rfl⟩ rfl rfl ?_
         refine wl_no (k := 17) (k' := 18) (d := 52) rfl rfl ⟨_, _, _, rfl, rfl, rfl, rfl⟩ rfl rfl ?_
         refine wlo 18 19 rfl rfl rfl (wo_run rfl rfl (run_pickT rfl rfl rfl) ?_)
         refine wl_end rfl ?_
         refine nm_sub [(0, _), (3, _), (4, _), (5, _), (53, _)] ⟨rfl, rfl, rfl, rfl, rfl, trivial⟩ ?_
         refine nm_thn ?_
         refine ws_condTN QuandleMay_n51 rfl rfl rfl ?_
         refine ws_seqN QuandleMay_n53 QuandleMay_n54 rfl rfl rfl ?_
         refine ws_region rfl ?_
         refine wla 0 1 rfl rfl rfl rfl rfl rfl rfl ?_
         refine wl_end rfl ?_
         refine nm_sub [(2, _)] ⟨rfl, trivial⟩ ?_
         refine nm_thn ?_
         refine ws_ret hC [_] rfl rfl ⟨rfl, trivial⟩ ?_
         exact ⟨_, rfl, (S2.pick [] [] (by decide) trivial), (congrArg (Value.int .i64) (quE_1 (fun h => by first | (have := h.1; have := h.2.1; omega) | (have := (h.2.2 a (by omega)).1; omega) | (have := (h.2.2 a (by omega)).2 b (by omega); unfold q2 at this; omega))).symm)⟩
        ·replace hg43 := of_decide_eq_false hg43
         refine wl_opG (k := 9) (k' := 10) rfl rfl ⟨_, _, _, rfl, rfl, rfl, rfl⟩ rfl (wo_run rfl rfl (run_move rfl rfl) ?_)
         refine wl_opG (k := 10) (k' := 11) rfl rfl ⟨_, _, _, rfl, rfl, rfl, rfl⟩ rfl (wo_run rfl rfl (run_move rfl rfl) ?_)
         refine wl_opG (k := 11) (k' := 12) rfl rfl ⟨_, _, _, rfl, rfl, rfl, rfl⟩ rfl (wo_run rfl rfl (run_indexM (C := (cdV 33)) a rfl rfl rfl sl34 (by first | rfl | omega) hq (by first | omega | (simp only [lens]; omega))) ?_)
         obtain ⟨hn3, hr3⟩ := hdq.2 a (by first | omega | (simp only [lens]; omega))
         have rmhr3 : (ga q a).length * 8 ≤ 140737488355328 := hr3.room
         refine wl_opG (k := 12) (k' := 13) rfl rfl ⟨_, _, _, rfl, rfl, rfl, rfl⟩ rfl (wo_run rfl rfl (run_load1 rfl rfl Try.underlying33 rfl (hq.cell S2.um (i := a) (by first | omega | (simp only [lens]; omega)) 0 rfl (congrArg (fun n => some (Value.slice _ n _)) hn3))) ?_)
         refine wl_opG (k := 13) (k' := 14) rfl rfl ⟨_, _, _, rfl, rfl, rfl, rfl⟩ rfl (wo_run rfl rfl (run_move rfl rfl) ?_)
         refine wl_opG (k := 14) (k' := 15) rfl rfl ⟨_, _, _, rfl, rfl, rfl, rfl⟩ rfl (wo_run rfl rfl (run_indexM (C := cdInt) b rfl rfl rfl sl33 (by first | rfl | omega) hr3 (by first | omega | (simp only [lens]; omega))) ?_)
         refine wl_opG (k := 15) (k' := 16) rfl rfl ⟨_, _, _, rfl, rfl, rfl, rfl⟩ rfl (wo_run rfl rfl (run_load1 rfl rfl Try.underlying3 rfl (hr3.cell S2.um (i := b) (by first | omega | (simp only [lens]; omega)) 0 rfl rfl)) ?_)
         refine wl_opG (k := 16) (k' := 17) rfl rfl ⟨_, _, _, rfl, rfl, rfl, rfl⟩ rfl (wo_run rfl rfl (run_move rfl rfl) ?_)
         refine wl_opG (k := 17) (k' := 18) rfl rfl ⟨_, _, _, rfl, rfl, rfl, rfl⟩ rfl (wo_run rfl rfl (run_geq rfl rfl rfl) ?_)
         refine wlo 18 19 rfl rfl rfl (wo_run rfl rfl (run_pickF rfl rfl rfl) ?_)
         refine wl_end rfl ?_
         refine nm_sub [(0, _), (3, _), (4, _), (5, _), (53, _)] ⟨rfl, rfl, rfl, rfl, rfl, trivial⟩ ?_
         refine nm_thn ?_
         refine ws_condN QuandleMay_n51 QuandleMay_n52 rfl rfl rfl rfl (fun hb53 => ?_) (fun hb53 => ?_)
         ·replace hb53 := of_decide_eq_true hb53
          refine ws_seqN QuandleMay_n53 QuandleMay_n54 rfl rfl rfl ?_
          refine ws_region rfl ?_
          refine wla 0 1 rfl rfl rfl rfl rfl rfl rfl ?_
          refine wl_end rfl ?_
          refine nm_sub [(2, _)] ⟨rfl, trivial⟩ ?_
          refine nm_thn ?_
          refine ws_ret hC [_] rfl rfl ⟨rfl, trivial⟩ ?_
          exact ⟨_, rfl, (S2.pick [] [] (by decide) trivial), (congrArg (Value.int .i64) (quE_1 (fun h => by first | (have := h.1; have := h.2.1; omega) | (have := (h.2.2 a (by omega)).1; omega) | (have := (h.2.2 a (by omega)).2 b (by omega); unfold q2 at this; omega))).symm)⟩
         ·replace hb53 := of_decide_eq_false hb53
          refine ws_skip rfl ?_
          refine nm_blk ?_
          refine nm_sub [(0, _), (3, _), (4, _), (5, _)] ⟨rfl, rfl, rfl, rfl, trivial⟩ ?_
          refine nm_thn ?_
          refine ws_region rfl ?_
          refine wlm 0 1 rfl rfl rfl rfl rfl rfl rfl ?_
          refine wlo 1 2 rfl rfl rfl (wo_run rfl rfl (run_add rfl rfl rfl (by first | omega | (simp only [lens]; omega))) ?_)
          refine wla 2 3 rfl rfl rfl rfl rfl rfl rfl ?_
          refine wl_end rfl ?_
          refine nm_lp ?_
          intro ax_ hax_
          refine ⟨_, ?hq3m, ⟨b + 1, rfl, hax_.sub ⟨rfl, rfl, rfl, rfl, trivial⟩, S2.pick [] [] (by decide) trivial, ?hq3f0, ?hq3f1⟩⟩
          case hq3f0 => omega
          case hq3f1 => (intro i hi; by_cases e : i = b; (subst e; unfold q2; omega); exact hF1 i (by omega))
          case hq3m => omega
       ·replace hb32 := of_decide_eq_false hb32
        refine ws_exit rfl rfl ?_
        refine nm_blk ?_
        refine nm_sub [(0, _), (3, _), (4, _)] ⟨rfl, rfl, rfl, trivial⟩ ?_
        refine nm_thn ?_
        refine ws_region rfl ?_
        refine wlm 0 1 rfl rfl rfl rfl rfl rfl rfl ?_
        refine wlo 1 2 rfl rfl rfl (wo_run rfl rfl (run_add rfl rfl rfl (by first | omega | (simp only [lens]; omega))) ?_)
        refine wla 2 3 rfl rfl rfl rfl rfl rfl rfl ?_
        refine wl_end rfl ?_
        refine nm_lp ?_
        intro ax_ hax_
        refine ⟨_, ?hq4m, ⟨a + 1, rfl, hax_.sub ⟨rfl, rfl, rfl, trivial⟩, S2.pick [] [] (by decide) trivial, ?hq4f0, ?hq4f1⟩⟩
        case hq4f0 => omega
        case hq4f1 => (intro i hi; by_cases e : i = a; (subst e; exact ⟨by omega, fun x hx => hF1 x (by omega)⟩); exact hF i (by omega))
        case hq4m => omega
    ·replace hb20 := of_decide_eq_false hb20
     refine ws_exit rfl rfl ?_
     refine nm_sub [(0, _), (3, _)] ⟨rfl, rfl, trivial⟩ ?_
     refine nm_thn ?_
     refine ws_seqN QuandleMay_n55 QuandleMay_n56 rfl rfl rfl ?_
     refine ws_seqN QuandleMay_n57 QuandleMay_n58 rfl rfl rfl ?_
     have hQF : QuF q := ⟨by omega, by omega, fun i hi => hF i (by omega)⟩
     clear hF
     refine ws_region rfl ?_
     refine wla 0 1 rfl rfl rfl rfl rfl rfl rfl ?_
     refine wl_end rfl ?_
     refine nm_thn ?_
     refine ws_blockN QuandleMay_n59 4 rfl rfl rfl ?_
     refine ws_loopE (fun mx_ ax_ wx_ => ∃ (b : Nat), mx_ = q.length - b ∧ Env 124 [(0, .slice qA qv.length qc), (3, .int .i64 (qv.length : Int)), (6, .int .i64 (b : Int))] ax_ ∧ SH wx_ M X [] ∧ b ≤ q.length ∧ (∀ i, i < b → q2 q i i = (i : Int) ∧ ∀ c, c < q.length → kcQ q i c)) rfl ?_ ?_
     ·intro ax_ hax_
      refine ⟨_, ⟨0, rfl, hax_.sub ⟨rfl, rfl, rfl, trivial⟩, S1.pick [] [] (by decide) trivial, ?hq5f0, ?hq5f1⟩⟩
      case hq5f0 => omega
      case hq5f1 => (intro i hi; omega)
     ·rintro m3 a3 w3 ⟨b, rfl, he3, S3, hb, hK⟩
      clear S1
      refine ws_in he3 (c := QuandleMay_n60) rfl ?_
      clear he3 a3
      refine ws_seqN QuandleMay_n61 QuandleMay_n62 rfl rfl rfl ?_
      refine ws_seqN QuandleMay_n63 QuandleMay_n64 rfl rfl rfl ?_
      refine ws_region rfl ?_
      refine wlm 0 1 rfl rfl rfl rfl rfl rfl rfl ?_
      refine wlm 1 2 rfl rfl rfl rfl rfl rfl rfl ?_
      refine wlo 2 3 rfl rfl rfl (wo_run rfl rfl (run_lss rfl rfl rfl) ?_)
      refine wl_end rfl ?_
      refine nm_sub [(0, _), (3, _), (6, _), (56, _)] ⟨rfl, rfl, rfl, rfl, trivial⟩ ?_
      refine nm_thn ?_
      refine ws_condN QuandleMay_n65 QuandleMay_n66 rfl rfl rfl rfl (fun hb56 => ?_) (fun hb56 => ?_)
      ·replace hb56 := of_decide_eq_true hb56
       refine ws_skip rfl ?_
       refine nm_sub [(0, _), (3, _), (6, _)] ⟨rfl, rfl, rfl, trivial⟩ ?_
       refine nm_thn ?_
       refine ws_seqN QuandleMay_n67 QuandleMay_n68 rfl rfl rfl ?_
       refine ws_blockN QuandleMay_n69 5 rfl rfl rfl ?_
       refine ws_seqN QuandleMay_n70 QuandleMay_n71 rfl rfl rfl ?_
       refine ws_seqN QuandleMay_n72 QuandleMay_n73 rfl rfl rfl ?_
       have hl17 := (hQF.2.2 b (by omega)).1
       refine ws_region rfl ?_
       refine wlm 0 1 rfl rfl rfl rfl rfl rfl rfl ?_
       refine wlm 1 2 rfl rfl rfl rfl rfl rfl rfl ?_
       refine wlo 2 3 rfl rfl rfl (wo_run rfl rfl (run_indexM (C := (cdV 33)) b rfl rfl rfl sl34 (by first | rfl | omega) hq (by first | omega | (simp only [lens]; omega))) ?_)
       obtain ⟨hn4, hr4⟩ := hdq.2 b (by first | omega | (simp only [lens]; omega))
       have rmhr4 : (ga q b).length * 8 ≤ 140737488355328 := hr4.room
       refine wlo 3 4 rfl rfl rfl (wo_run rfl rfl (run_load1 rfl rfl Try.underlying33 rfl (hq.cell S3.um (i := b) (by first | omega | (simp only [lens]; omega)) 0 rfl (congrArg (fun n => some (Value.slice _ n _)) hn4))) ?_)
       refine wlm 4 5 rfl rfl rfl rfl rfl rfl rfl ?_
       refine wlo 5 6 rfl rfl rfl (wo_run rfl rfl (run_indexM (C := cdInt) b rfl rfl rfl sl33 (by first | rfl | omega) hr4 (by first | omega | (simp only [lens]; omega))) ?_)
       refine wlo 6 7 rfl rfl rfl (wo_run rfl rfl (run_load1 rfl rfl Try.underlying3 rfl (hr4.cell S3.um (i := b) (by first | omega | (simp only [lens]; omega)) 0 rfl rfl)) ?_)
       refine wlm 7 8 rfl rfl rfl rfl rfl rfl rfl ?_
       refine wlo 8 9 rfl rfl rfl (wo_run rfl rfl (run_neq rfl rfl rfl) ?_)
       refine wl_end rfl ?_
       refine nm_sub [(0, _), (3, _), (6, _), (67, _)] ⟨rfl, rfl, rfl, rfl, trivial⟩ ?_
       refine nm_thn ?_
       refine ws_condN QuandleMay_n74 QuandleMay_n75 rfl rfl rfl rfl (fun hb67 => ?_) (fun hb67 => ?_)
       ·replace hb67 := of_decide_eq_true hb67
        refine ws_seqN QuandleMay_n76 QuandleMay_n77 rfl rfl rfl ?_
        refine ws_region rfl ?_
        refine wla 0 1 rfl rfl rfl rfl rfl rfl rfl ?_
        refine wl_end rfl ?_
        refine nm_sub [(2, _)] ⟨rfl, trivial⟩ ?_
        refine nm_thn ?_
        refine ws_ret hC [_] rfl rfl ⟨rfl, trivial⟩ ?_
        exact ⟨_, rfl, (S3.pick [] [] (by decide) trivial), (congrArg (Value.int .i64) (quE_6 hQF (fun h => by first | (have := (h b (by omega)).1; unfold q2 at this; omega) | (have h9 := ((h b (by omega)).2 c (by omega)).1 a (by omega); unfold dstQ q2 at h9; omega) | (have h9 := ((h b (by omega)).2 c (by omega)).2; have e9 : a = q.length := (by omega); rw [← e9] at h9; omega))).symm)⟩
       ·replace hb67 := of_decide_eq_false hb67
        refine ws_skip rfl ?_
        refine nm_sub [(0, _), (3, _), (6, _)] ⟨rfl, rfl, rfl, trivial⟩ ?_
        refine nm_thn ?_
        refine ws_seqN QuandleMay_n78 QuandleMay_n79 rfl rfl rfl ?_
        refine ws_region rfl ?_
        refine wla 0 1 rfl rfl rfl rfl rfl rfl rfl ?_
        refine wl_end rfl ?_
        refine nm_thn ?_
        refine ws_blockN QuandleMay_n80 6 rfl rfl rfl ?_
        refine ws_loopE (fun mx_ ax_ wx_ => ∃ (c : Nat), mx_ = q.length - c ∧ Env 124 [(0, .slice qA qv.length qc), (3, .int .i64 (qv.length : Int)), (6, .int .i64 (b : Int)), (7, .int .i64 (c : Int))] ax_ ∧ SH wx_ M X [] ∧ c ≤ q.length ∧ (∀ i, i < c → kcQ q b i)) rfl ?_ ?_
        ·intro ax_ hax_
         refine ⟨_, ⟨0, rfl, hax_.sub ⟨rfl, rfl, rfl, rfl, trivial⟩, S3.pick [] [] (by decide) trivial, ?hq6f0, ?hq6f1⟩⟩
         case hq6f0 => omega
         case hq6f1 => (intro i hi; omega)
        ·rintro m4 a4 w4 ⟨c, rfl, he4, S4, hc, hK3⟩
         clear S3
         refine ws_in he4 (c := QuandleMay_n81) rfl ?_
         clear he4 a4
         refine ws_seqN QuandleMay_n82 QuandleMay_n83 rfl rfl rfl ?_
         refine ws_seqN QuandleMay_n84 QuandleMay_n85 rfl rfl rfl ?_
         refine ws_region rfl ?_
         refine wlm 0 1 rfl rfl rfl rfl rfl rfl rfl ?_
         refine wlm 1 2 rfl rfl rfl rfl rfl rfl rfl ?_
         refine wlo 2 3 rfl rfl rfl (wo_run rfl rfl (run_lss rfl rfl rfl) ?_)
         refine wl_end rfl ?_
         refine nm_sub [(0, _), (3, _), (6, _), (7, _), (70, _)] ⟨rfl, rfl, rfl, rfl, rfl, trivial⟩ ?_
         refine nm_thn ?_
         refine ws_condN QuandleMay_n86 QuandleMay_n87 rfl rfl rfl rfl (fun hb70 => ?_) (fun hb70 => ?_)
         ·replace hb70 := of_decide_eq_true hb70
          refine ws_skip rfl ?_
          refine nm_sub [(0, _), (3, _), (6, _), (7, _)] ⟨rfl, rfl, rfl, rfl, trivial⟩ ?_
          refine nm_thn ?_
          refine ws_seqN QuandleMay_n88 QuandleMay_n89 rfl rfl rfl ?_
          refine ws_blockN QuandleMay_n90 7 rfl rfl rfl ?_
          refine ws_seqN QuandleMay_n91 QuandleMay_n92 rfl rfl rfl ?_
          refine ws_region rfl ?_
          refine wla 0 1 rfl rfl rfl rfl rfl rfl rfl ?_
          refine wl_end rfl ?_
          refine nm_thn ?_
          refine ws_seqN QuandleMay_n93 QuandleMay_n94 rfl rfl rfl ?_
          refine ws_seqN QuandleMay_n95 QuandleMay_n96 rfl rfl rfl ?_
          refine ws_region rfl ?_
          refine wla 0 1 rfl rfl rfl rfl rfl rfl rfl ?_
          refine wl_end rfl ?_
          refine nm_thn ?_
          refine ws_blockN QuandleMay_n97 8 rfl rfl rfl ?_
          refine ws_loopE (fun mx_ ax_ wx_ => ∃ (a : Nat), mx_ = q.length - a ∧ Env 124 [(0, .slice qA qv.length qc), (3, .int .i64 (qv.length : Int)), (6, .int .i64 (b : Int)), (7, .int .i64 (c : Int)), (8, .int .i64 (cntQ q b c a : Int)), (9, .int .i64 (a : Int))] ax_ ∧ SH wx_ M X [] ∧ a ≤ q.length ∧ (∀ i, i < a → dstQ q i b c)) rfl ?_ ?_
          ·intro ax_ hax_
           refine ⟨_, ⟨0, rfl, hax_.sub ⟨rfl, rfl, rfl, rfl, rfl, rfl, trivial⟩, S4.pick [] [] (by decide) trivial, ?hq7f0, ?hq7f1⟩⟩
           case hq7f0 => omega
           case hq7f1 => (intro i hi; omega)
          ·rintro m5 a5 w5 ⟨a, rfl, he5, S5, ha, hK4⟩
           clear S4
           refine ws_in he5 (c := QuandleMay_n98) rfl ?_
           clear he5 a5
           have hcl := cntQ_le q b c a
           refine ws_seqN QuandleMay_n99 QuandleMay_n100 rfl rfl rfl ?_
           refine ws_seqN QuandleMay_n101 QuandleMay_n102 rfl rfl rfl ?_
           refine ws_region rfl ?_
           refine wlm 0 1 rfl rfl rfl rfl rfl rfl rfl ?_
           refine wlm 1 2 rfl rfl rfl rfl rfl rfl rfl ?_
           refine wlo 2 3 rfl rfl rfl (wo_run rfl rfl (run_lss rfl rfl rfl) ?_)
           refine wl_end rfl ?_
           refine nm_sub [(0, _), (3, _), (6, _), (7, _), (8, _), (9, _), (75, _)] ⟨rfl, rfl, rfl, rfl, rfl, rfl, rfl, trivial⟩ ?_
           refine nm_thn ?_
           refine ws_condN QuandleMay_n103 QuandleMay_n104 rfl rfl rfl rfl (fun hb75 => ?_) (fun hb75 => ?_)
           ·replace hb75 := of_decide_eq_true hb75
            refine ws_skip rfl ?_
            refine nm_sub [(0, _), (3, _), (6, _), (7, _), (8, _), (9, _)] ⟨rfl, rfl, rfl, rfl, rfl, rfl, trivial⟩ ?_
            refine nm_thn ?_
            refine ws_seqN QuandleMay_n105 QuandleMay_n106 rfl rfl rfl ?_
            refine ws_blockN QuandleMay_n107 9 rfl rfl rfl ?_
            refine ws_seqN QuandleMay_n108 QuandleMay_n109 rfl rfl rfl ?_
            refine ws_seqN QuandleMay_n110 QuandleMay_n111 rfl rfl rfl ?_
            have hl26 := (hQF.2.2 a (by omega)).1
            have hl27 := (hQF.2.2 b (by omega)).1
            have hv1 := (hQF.2.2 a (by omega)).2 b (by omega)
            have hv2 := (hQF.2.2 a (by omega)).2 c (by omega)
            have hv3 := (hQF.2.2 b (by omega)).2 c (by omega)
            unfold q2 at hv1 hv2 hv3
            have hl1 := (hQF.2.2 (ga (ga q a) b).toNat (by omega)).1
            have hl2 := (hQF.2.2 (ga (ga q a) c).toNat (by omega)).1
            refine ws_region rfl ?_
            refine wlm 0 1 rfl rfl rfl rfl rfl rfl rfl ?_
            refine wlm 1 2 rfl rfl rfl rfl rfl rfl rfl ?_
            refine wlo 2 3 rfl rfl rfl (wo_run rfl rfl (run_indexM (C := (cdV 33)) a rfl rfl rfl sl34 (by first | rfl | omega) hq (by first | omega | (simp only [lens]; omega))) ?_)
            obtain ⟨hn5, hr5⟩ := hdq.2 a (by first | omega | (simp only [lens]; omega))
            have rmhr5 : (ga q a).length * 8 ≤ 140737488355328 := hr5.room
            refine wlo 3 4 rfl rfl rfl (wo_run rfl rfl (run_load1 rfl rfl Try.underlying33 rfl (hq.cell S5.um (i := a) (by first | omega | (simp only [lens]; omega)) 0 rfl (congrArg (fun n => some (Value.slice _ n _)) hn5))) ?_)
            refine wlm 4 5 rfl rfl rfl rfl rfl rfl rfl ?_
            refine wlo 5 6 rfl rfl rfl (wo_run rfl rfl (run_indexM (C := cdInt) b rfl rfl rfl sl33 (by first | rfl | omega) hr5 (by first | omega | (simp only [lens]; omega))) ?_)
            refine wlo 6 7 rfl rfl rfl (wo_run rfl rfl (run_load1 rfl rfl Try.underlying3 rfl (hr5.cell S5.um (i := b) (by first | omega | (simp only [lens]; omega)) 0 rfl rfl)) ?_)
            refine wlm 7 8 rfl rfl rfl rfl rfl rfl rfl ?_
            refine wlo 8 9 rfl rfl rfl (wo_run rfl rfl (run_eql rfl rfl rfl) ?_)
            refine wl_end rfl ?_
            refine nm_sub [(0, _), (3, _), (6, _), (7, _), (8, _), (9, _), (86, _)] ⟨rfl, rfl, rfl, rfl, rfl, rfl, rfl, trivial⟩ ?_
            refine nm_thn ?_
            refine ws_condN QuandleMay_n112 QuandleMay_n113 rfl rfl rfl rfl (fun hb86 => ?_) (fun hb86 => ?_)
            ·replace hb86 := of_decide_eq_true hb86
             refine ws_region rfl ?_
             refine wlm 0 1 rfl rfl rfl rfl rfl rfl rfl ?_
             refine wlo 1 2 rfl rfl rfl (wo_run rfl rfl (run_add rfl rfl rfl (by first | omega | (simp only [lens]; omega))) ?_)
             refine wla 2 3 rfl rfl rfl rfl rfl rfl rfl ?_
             refine wl_end rfl ?_
             refine nm_sub [(0, _), (3, _), (6, _), (7, _), (8, _), (9, _)] ⟨rfl, rfl, rfl, rfl, rfl, rfl, trivial⟩ ?_
             refine nm_thn ?_
             refine ws_seqN QuandleMay_n114 QuandleMay_n115 rfl rfl rfl ?_
             refine ws_draw rfl (by kernel_rfl) S5 33 rfl ?_
             clear S5
             refine wa_takeP (i := 0) (d := 89) 32 rfl (by kernel_rfl) (by kernel_rfl) (by kernel_rfl) rfl rfl rfl (fun w6 => run_move rfl rfl) ?_
             refine wa_takeP (i := 1) (d := 90) 31 rfl (by kernel_rfl) (by kernel_rfl) (by kernel_rfl) rfl rfl rfl (fun w7 => run_move rfl rfl) ?_
             refine wa_takeP (i := 2) (d := 91) 30 rfl (by kernel_rfl) (by kernel_rfl) (by kernel_rfl) rfl rfl rfl (fun w8 => run_move rfl rfl) ?_
             refine wa_take (i := 3) (d := 92) 29 rfl (by kernel_rfl) (by kernel_rfl) (by kernel_rfl) rfl rfl rfl (fun M4 N4 w9 hle9 S9 => .inl (run_indexM (C := (cdV 33)) a rfl rfl rfl sl34 (by first | rfl | omega) (hq.mono (Hp.un_mono hle9 S9.mx)) (by first | omega | (simp only [lens]; omega)))) ?_
             obtain ⟨hn6, hr6⟩ := hdq.2 a (by first | omega | (simp only [lens]; omega))
             have rmhr6 : (ga q a).length * 8 ≤ 140737488355328 := hr6.room
             refine wa_take (i := 4) (d := 93) 28 rfl (by kernel_rfl) (by kernel_rfl) (by kernel_rfl) rfl rfl rfl (fun M5 N5 w10 hle10 S10 => .inl (run_load1 rfl rfl Try.underlying33 rfl ((hq.mono (Hp.un_mono hle10 S10.mx)).cell S10.um (i := a) (by first | omega | (simp only [lens]; omega)) 0 rfl (congrArg (fun n => some (Value.slice _ n _)) hn6)))) ?_
             refine wa_takeP (i := 5) (d := 94) 27 rfl (by kernel_rfl) (by kernel_rfl) (by kernel_rfl) rfl rfl rfl (fun w11 => run_move rfl rfl) ?_
             refine wa_take (i := 6) (d := 95) 26 rfl (by kernel_rfl) (by kernel_rfl) (by kernel_rfl) rfl rfl rfl (fun M7 N7 w12 hle12 S12 => .inl (run_indexM (C := cdInt) b rfl rfl rfl sl33 (by first | rfl | omega) (hr6.mono (Hp.un_mono hle12 S12.mx)) (by first | omega | (simp only [lens]; omega)))) ?_
             refine wa_take (i := 7) (d := 96) 25 rfl (by kernel_rfl) (by kernel_rfl) (by kernel_rfl) rfl rfl rfl (fun M8 N8 w13 hle13 S13 => .inl (run_load1 rfl rfl Try.underlying3 rfl ((hr6.mono (Hp.un_mono hle13 S13.mx)).cell S13.um (i := b) (by first | omega | (simp only [lens]; omega)) 0 rfl rfl))) ?_
             refine wa_take (i := 8) (d := 97) 24 rfl (by kernel_rfl) (by kernel_rfl) (by kernel_rfl) rfl rfl rfl (fun M9 N9 w14 hle14 S14 => .inl (run_indexM (C := (cdV 33)) ((ga (ga q a) b).toNat) rfl rfl rfl sl34 (by first | rfl | omega) (hq.mono (Hp.un_mono hle14 S14.mx)) (by first | omega | (simp only [lens]; omega)))) ?_
             obtain ⟨hn7, hr7⟩ := hdq.2 ((ga (ga q a) b).toNat) (by first | omega | (simp only [lens]; omega))
             have rmhr7 : (ga q ((ga (ga q a) b).toNat)).length * 8 ≤ 140737488355328 := hr7.room
             refine wa_take (i := 9) (d := 98) 23 rfl (by kernel_rfl) (by kernel_rfl) (by kernel_rfl) rfl rfl rfl (fun M10 N10 w15 hle15 S15 => .inl (run_load1 rfl rfl Try.underlying33 rfl ((hq.mono (Hp.un_mono hle15 S15.mx)).cell S15.um (i := (ga (ga q a) b).toNat) (by first | omega | (simp only [lens]; omega)) 0 rfl (congrArg (fun n => some (Value.slice _ n _)) hn7)))) ?_
             refine wa_takeP (i := 10) (d := 99) 22 rfl (by kernel_rfl) (by kernel_rfl) (by kernel_rfl) rfl rfl rfl (fun w16 => run_move rfl rfl) ?_
             refine wa_take (i := 11) (d := 100) 21 rfl (by kernel_rfl) (by kernel_rfl) (by kernel_rfl) rfl rfl rfl (fun M12 N12 w17 hle17 S17 => .inl (run_indexM (C := cdInt) c rfl rfl rfl sl33 (by first | rfl | omega) (hr7.mono (Hp.un_mono hle17 S17.mx)) (by first | omega | (simp only [lens]; omega)))) ?_
             refine wa_take (i := 12) (d := 101) 20 rfl (by kernel_rfl) (by kernel_rfl) (by kernel_rfl) rfl rfl rfl (fun M13 N13 w18 hle18 S18 => .inl (run_load1 rfl rfl Try.underlying3 rfl ((hr7.mono (Hp.un_mono hle18 S18.mx)).cell S18.um (i := c) (by first | omega | (simp only [lens]; omega)) 0 rfl rfl))) ?_
             refine wa_takeP (i := 13) (d := 102) 19 rfl (by kernel_rfl) (by kernel_rfl) (by kernel_rfl) rfl rfl rfl (fun w19 => run_move rfl rfl) ?_
             refine wa_takeP (i := 14) (d := 103) 18 rfl (by kernel_rfl) (by kernel_rfl) (by kernel_rfl) rfl rfl rfl (fun w20 => run_move rfl rfl) ?_
             refine wa_takeP (i := 15) (d := 104) 17 rfl (by kernel_rfl) (by kernel_rfl) (by kernel_rfl) rfl rfl rfl (fun w21 => run_move rfl rfl) ?_
             refine wa_take (i := 16) (d := 105) 16 rfl (by kernel_rfl) (by kernel_rfl) (by kernel_rfl) rfl rfl rfl (fun M17 N17 w22 hle22 S22 => .inl (run_indexM (C := (cdV 33)) a rfl rfl rfl sl34 (by first | rfl | omega) (hq.mono (Hp.un_mono hle22 S22.mx)) (by first | omega | (simp only [lens]; omega)))) ?_
             obtain ⟨hn8, hr8⟩ := hdq.2 a (by first | omega | (simp only [lens]; omega))
             have rmhr8 : (ga q a).length * 8 ≤ 140737488355328 := hr8.room
             refine wa_take (i := 17) (d := 106) 15 rfl (by kernel_rfl) (by kernel_rfl) (by kernel_rfl) rfl rfl rfl (fun M18 N18 w23 hle23 S23 => .inl (run_load1 rfl rfl Try.underlying33 rfl ((hq.mono (Hp.un_mono hle23 S23.mx)).cell S23.um (i := a) (by first | omega | (simp only [lens]; omega)) 0 rfl (congrArg (fun n => some (Value.slice _ n _)) hn8)))) ?_
             refine wa_takeP (i := 18) (d := 107) 14 rfl (by kernel_rfl) (by kernel_rfl) (by kernel_rfl) rfl rfl rfl (fun w24 => run_move rfl rfl) ?_
             refine wa_take (i := 19) (d := 108) 13 rfl (by kernel_rfl) (by kernel_rfl) (by kernel_rfl) rfl rfl rfl (fun M20 N20 w25 hle25 S25 => .inl (run_indexM (C := cdInt) c rfl rfl rfl sl33 (by first | rfl | omega) (hr8.mono (Hp.un_mono hle25 S25.mx)) (by first | omega | (simp only [lens]; omega)))) ?_
             refine wa_take (i := 20) (d := 109) 12 rfl (by kernel_rfl) (by kernel_rfl) (by kernel_rfl) rfl rfl rfl (fun M21 N21 w26 hle26 S26 => .inl (run_load1 rfl rfl Try.underlying3 rfl ((hr8.mono (Hp.un_mono hle26 S26.mx)).cell S26.um (i := c) (by first | omega | (simp only [lens]; omega)) 0 rfl rfl))) ?_
             refine wa_take (i := 21) (d := 110) 11 rfl (by kernel_rfl) (by kernel_rfl) (by kernel_rfl) rfl rfl rfl (fun M22 N22 w27 hle27 S27 => .inl (run_indexM (C := (cdV 33)) ((ga (ga q a) c).toNat) rfl rfl rfl sl34 (by first | rfl | omega) (hq.mono (Hp.un_mono hle27 S27.mx)) (by first | omega | (simp only [lens]; omega)))) ?_
             obtain ⟨hn9, hr9⟩ := hdq.2 ((ga (ga q a) c).toNat) (by first | omega | (simp only [lens]; omega))
             have rmhr9 : (ga q ((ga (ga q a) c).toNat)).length * 8 ≤ 140737488355328 := hr9.room
             refine wa_take (i := 22) (d := 111) 10 rfl (by kernel_rfl) (by kernel_rfl) (by kernel_rfl) rfl rfl rfl (fun M23 N23 w28 hle28 S28 => .inl (run_load1 rfl rfl Try.underlying33 rfl ((hq.mono (Hp.un_mono hle28 S28.mx)).cell S28.um (i := (ga (ga q a) c).toNat) (by first | omega | (simp only [lens]; omega)) 0 rfl (congrArg (fun n => some (Value.slice _ n _)) hn9)))) ?_
             refine wa_takeP (i := 23) (d := 112) 9 rfl (by kernel_rfl) (by kernel_rfl) (by kernel_rfl) rfl rfl rfl (fun w29 => run_move rfl rfl) ?_
             refine wa_takeP (i := 24) (d := 113) 8 rfl (by kernel_rfl) (by kernel_rfl) (by kernel_rfl) rfl rfl rfl (fun w30 => run_move rfl rfl) ?_
             refine wa_take (i := 25) (d := 114) 7 rfl (by kernel_rfl) (by kernel_rfl) (by kernel_rfl) rfl rfl rfl (fun M26 N26 w31 hle31 S31 => .inl (run_indexM (C := (cdV 33)) b rfl rfl rfl sl34 (by first | rfl | omega) (hq.mono (Hp.un_mono hle31 S31.mx)) (by first | omega | (simp only [lens]; omega)))) ?_
             obtain ⟨hn10, hr10⟩ := hdq.2 b (by first | omega | (simp only [lens]; omega))
             have rmhr10 : (ga q b).length * 8 ≤ 140737488355328 := hr10.room
             refine wa_take (i := 26) (d := 115) 6 rfl (by kernel_rfl) (by kernel_rfl) (by kernel_rfl) rfl rfl rfl (fun M27 N27 w32 hle32 S32 => .inl (run_load1 rfl rfl Try.underlying33 rfl ((hq.mono (Hp.un_mono hle32 S32.mx)).cell S32.um (i := b) (by first | omega | (simp only [lens]; omega)) 0 rfl (congrArg (fun n => some (Value.slice _ n _)) hn10)))) ?_
             refine wa_takeP (i := 27) (d := 116) 5 rfl (by kernel_rfl) (by kernel_rfl) (by kernel_rfl) rfl rfl rfl (fun w33 => run_move rfl rfl) ?_
             refine wa_take (i := 28) (d := 117) 4 rfl (by kernel_rfl) (by kernel_rfl) (by kernel_rfl) rfl rfl rfl (fun M29 N29 w34 hle34 S34 => .inl (run_indexM (C := cdInt) c rfl rfl rfl sl33 (by first | rfl | omega) (hr10.mono (Hp.un_mono hle34 S34.mx)) (by first | omega | (simp only [lens]; omega)))) ?_
             refine wa_take (i := 29) (d := 118) 3 rfl (by kernel_rfl) (by kernel_rfl) (by kernel_rfl) rfl rfl rfl (fun M30 N30 w35 hle35 S35 => .inl (run_load1 rfl rfl Try.underlying3 rfl ((hr10.mono (Hp.un_mono hle35 S35.mx)).cell S35.um (i := c) (by first | omega | (simp only [lens]; omega)) 0 rfl rfl))) ?_
             refine wa_take (i := 30) (d := 119) 2 rfl (by kernel_rfl) (by kernel_rfl) (by kernel_rfl) rfl rfl rfl (fun M31 N31 w36 hle36 S36 => .inl (run_indexM (C := cdInt) ((ga (ga q b) c).toNat) rfl rfl rfl sl33 (by first | rfl | omega) (hr9.mono (Hp.un_mono hle36 S36.mx)) (by first | omega | (simp only [lens]; omega)))) ?_
             refine wa_take (i := 31) (d := 120) 1 rfl (by kernel_rfl) (by kernel_rfl) (by kernel_rfl) rfl rfl rfl (fun M32 N32 w37 hle37 S37 => .inl (run_load1 rfl rfl Try.underlying3 rfl ((hr9.mono (Hp.un_mono hle37 S37.mx)).cell S37.um (i := (ga (ga q b) c).toNat) (by first | omega | (simp only [lens]; omega)) 0 rfl rfl))) ?_
             refine wa_takeP (i := 32) (d := 121) 0 rfl (by kernel_rfl) (by kernel_rfl) (by kernel_rfl) rfl rfl rfl (fun w38 => run_neq rfl rfl rfl) ?_
             refine wa_end (by kernel_rfl) (fun w39 S39 => ?_)
             refine nm_sub [(0, _), (3, _), (6, _), (7, _), (8, _), (9, _), (121, _)] ⟨rfl, rfl, rfl, rfl, rfl, rfl, rfl, trivial⟩ ?_
             refine nm_thn ?_
             refine ws_condN QuandleMay_n116 QuandleMay_n117 rfl rfl rfl rfl (fun hb121 => ?_) (fun hb121 => ?_)
             ·replace hb121 := of_decide_eq_true hb121
              refine ws_seqN QuandleMay_n118 QuandleMay_n119 rfl rfl rfl ?_
              refine ws_region rfl ?_
              refine wla 0 1 rfl rfl rfl rfl rfl rfl rfl ?_
              refine wl_end rfl ?_
              refine nm_sub [(2, _)] ⟨rfl, trivial⟩ ?_
              refine nm_thn ?_
              refine ws_ret hC [_] rfl rfl ⟨rfl, trivial⟩ ?_
              exact ⟨_, rfl, (S39.pick [] [] (by decide) trivial), (congrArg (Value.int .i64) (quE_6 hQF (fun h => by first | (have := (h b (by omega)).1; unfold q2 at this; omega) | (have h9 := ((h b (by omega)).2 c (by omega)).1 a (by omega); unfold dstQ q2 at h9; omega) | (have h9 := ((h b (by omega)).2 c (by omega)).2; have e9 : a = q.length := (by omega); rw [← e9] at h9; omega))).symm)⟩
             ·replace hb121 := of_decide_eq_false hb121
              refine ws_skip rfl ?_
              refine nm_blk ?_
              refine nm_sub [(0, _), (3, _), (6, _), (7, _), (8, _), (9, _)] ⟨rfl, rfl, rfl, rfl, rfl, rfl, trivial⟩ ?_
              refine nm_thn ?_
              refine ws_eq 8 (.int .i64 ((cntQ q b c (a + 1) : Nat) : Int)) rfl (int_eq (by first | exact cntQ_t hb86 | exact cntQ_f hb86)) ?_
              refine ws_region rfl ?_
              refine wlm 0 1 rfl rfl rfl rfl rfl rfl rfl ?_
              refine wlo 1 2 rfl rfl rfl (wo_run rfl rfl (run_add rfl rfl rfl (by first | omega | (simp only [lens]; omega))) ?_)
              refine wla 2 3 rfl rfl rfl rfl rfl rfl rfl ?_
              refine wl_end rfl ?_
              refine nm_lp ?_
              intro ax_ hax_
              refine ⟨_, ?hq8m, ⟨a + 1, rfl, hax_.sub ⟨rfl, rfl, rfl, rfl, rfl, rfl, trivial⟩, S39.pick [] [] (by decide) trivial, ?hq8f0, ?hq8f1⟩⟩
              case hq8f0 => omega
              case hq8f1 => (intro i hi; by_cases e : i = a; (subst e; unfold dstQ q2; omega); exact hK4 i (by omega))
              case hq8m => omega
            ·replace hb86 := of_decide_eq_false hb86
             refine ws_skip rfl ?_
             refine nm_sub [(0, _), (3, _), (6, _), (7, _), (8, _), (9, _)] ⟨rfl, rfl, rfl, rfl, rfl, rfl, trivial⟩ ?_
             refine nm_thn ?_
             refine ws_seqN QuandleMay_n114 QuandleMay_n115 rfl rfl rfl ?_
             refine ws_draw rfl (by kernel_rfl) S5 33 rfl ?_
             clear S5
             refine wa_takeP (i := 0) (d := 89) 32 rfl (by kernel_rfl) (by kernel_rfl) (by kernel_rfl) rfl rfl rfl (fun w40 => run_move rfl rfl) ?_
             refine wa_takeP (i := 1) (d := 90) 31 rfl (by kernel_rfl) (by kernel_rfl) (by kernel_rfl) rfl rfl rfl (fun w41 => run_move rfl rfl) ?_
             refine wa_takeP (i := 2) (d := 91) 30 rfl (by kernel_rfl) (by kernel_rfl) (by kernel_rfl) rfl rfl rfl (fun w42 => run_move rfl rfl) ?_
             refine wa_take (i := 3) (d := 92) 29 rfl (by kernel_rfl) (by kernel_rfl) (by kernel_rfl) rfl rfl rfl (fun M37 N37 w43 hle42 S43 => .inl (run_indexM (C := (cdV 33)) a rfl rfl rfl sl34 (by first | rfl | omega) (hq.mono (Hp.un_mono hle42 S43.mx)) (by first | omega | (simp only [lens]; omega)))) ?_
             obtain ⟨hn11, hr11⟩ := hdq.2 a (by first | omega | (simp only [lens]; omega))
             have rmhr11 : (ga q a).length * 8 ≤ 140737488355328 := hr11.room
             refine wa_take (i := 4) (d := 93) 28 rfl (by kernel_rfl) (by kernel_rfl) (by kernel_rfl) rfl rfl rfl (fun M38 N38 w44 hle43 S44 => .inl (run_load1 rfl rfl Try.underlying33 rfl ((hq.mono (Hp.un_mono hle43 S44.mx)).cell S44.um (i := a) (by first | omega | (simp only [lens]; omega)) 0 rfl (congrArg (fun n => some (Value.slice _ n _)) hn11)))) ?_
             refine wa_takeP (i := 5) (d := 94) 27 rfl (by kernel_rfl) (by kernel_rfl) (by kernel_rfl) rfl rfl rfl (fun w45 => run_move rfl rfl) ?_
             refine wa_take (i := 6) (d := 95) 26 rfl (by kernel_rfl) (by kernel_rfl) (by kernel_rfl) rfl rfl rfl (fun M40 N40 w46 hle45 S46 => .inl (run_indexM (C := cdInt) b rfl rfl rfl sl33 (by first | rfl | omega) (hr11.mono (Hp.un_mono hle45 S46.mx)) (by first | omega | (simp only [lens]; omega)))) ?_
             refine wa_take (i := 7) (d := 96) 25 rfl (by kernel_rfl) (by kernel_rfl) (by kernel_rfl) rfl rfl rfl (fun M41 N41 w47 hle46 S47 => .inl (run_load1 rfl rfl Try.underlying3 rfl ((hr11.mono (Hp.un_mono hle46 S47.mx)).cell S47.um (i := b) (by first | omega | (simp only [lens]; omega)) 0 rfl rfl))) ?_
             refine wa_take (i := 8) (d := 97) 24 rfl (by kernel_rfl) (by kernel_rfl) (by kernel_rfl) rfl rfl rfl (fun M42 N42 w48 hle47 S48 => .inl (run_indexM (C := (cdV 33)) ((ga (ga q a) b).toNat) rfl rfl rfl sl34 (by first | rfl | omega) (hq.mono (Hp.un_mono hle47 S48.mx)) (by first | omega | (simp only [lens]; omega)))) ?_
             obtain ⟨hn12, hr12⟩ := hdq.2 ((ga (ga q a) b).toNat) (by first | omega | (simp only [lens]; omega))
             have rmhr12 : (ga q ((ga (ga q a) b).toNat)).length * 8 ≤ 140737488355328 := hr12.room
             refine wa_take (i := 9) (d := 98) 23 rfl (by kernel_rfl) (by kernel_rfl) (by kernel_rfl) rfl rfl rfl (fun M43 N43 w49 hle48 S49 => .inl (run_load1 rfl rfl Try.underlying33 rfl ((hq.mono (Hp.un_mono hle48 S49.mx)).cell S49.um (i := (ga (ga q a) b).toNat) (by first | omega | (simp only [lens]; omega)) 0 rfl (congrArg (fun n => some (Value.slice _ n _)) hn12)))) ?_
             refine wa_takeP (i := 10) (d := 99) 22 rfl (by kernel_rfl) (by kernel_rfl) (by kernel_rfl) rfl rfl rfl (fun w50 => run_move rfl rfl) ?_
             refine wa_take (i := 11) (d := 100) 21 rfl (by kernel_rfl) (by kernel_rfl) (by kernel_rfl) rfl rfl rfl (fun M45 N45 w51 hle50 S51 => .inl (run_indexM (C := cdInt) c rfl rfl rfl sl33 (by first | rfl | omega) (hr12.mono (Hp.un_mono hle50 S51.mx)) (by first | omega | (simp only [lens]; omega)))) ?_
             refine wa_take (i := 12) (d := 101) 20 rfl (by kernel_rfl) (by kernel_rfl) (by kernel_rfl) rfl rfl rfl (fun M46 N46 w52 hle51 S52 => .inl (run_load1 rfl rfl Try.underlying3 rfl ((hr12.mono (Hp.un_mono hle51 S52.mx)).cell S52.um (i := c) (by first | omega | (simp only [lens]; omega)) 0 rfl rfl))) ?_
             refine wa_takeP (i := 13) (d := 102) 19 rfl (by kernel_rfl) (by kernel_rfl) (by kernel_rfl) rfl rfl rfl (fun w53 => run_move rfl rfl) ?_
             refine wa_takeP (i := 14) (d := 103) 18 rfl (by kernel_rfl) (by kernel_rfl) (by kernel_rfl) rfl rfl rfl (fun w54 => run_move rfl rfl) ?_
             refine wa_takeP (i := 15) (d := 104) 17 rfl (by kernel_rfl) (by kernel_rfl) (by kernel_rfl) rfl rfl rfl (fun w55 => run_move rfl rfl) ?_
             refine wa_take (i := 16) (d := 105) 16 rfl (by kernel_rfl) (by kernel_rfl) (by kernel_rfl) rfl rfl rfl (fun M50 N50 w56 hle55 S56 => .inl (run_indexM (C := (cdV 33)) a rfl rfl rfl sl34 (by first | rfl | omega) (hq.mono (Hp.un_mono hle55 S56.mx)) (by first | omega | (simp only [lens]; omega)))) ?_
             obtain ⟨hn13, hr13⟩ := hdq.2 a (by first | omega | (simp only [lens]; omega))
             have rmhr13 : (ga q a).length * 8 ≤ 140737488355328 := hr13.room
             refine wa_take (i := 17) (d := 106) 15 rfl (by kernel_rfl) (by kernel_rfl) (by kernel_rfl) rfl rfl rfl (fun M51 N51 w57 hle56 S57 => .inl (run_load1 rfl rfl Try.underlying33 rfl ((hq.mono (Hp.un_mono hle56 S57.mx)).cell S57.um (i := a) (by first | omega | (simp only [lens]; omega)) 0 rfl (congrArg (fun n => some (Value.slice _ n _)) hn13)))) ?_
             refine wa_takeP (i := 18) (d := 107) 14 rfl (by kernel_rfl) (by kernel_rfl) (by kernel_rfl) rfl rfl rfl (fun w58 => run_move rfl rfl) ?_
             refine wa_take (i := 19) (d := 108) 13 rfl (by kernel_rfl) (by kernel_rfl) (by kernel_rfl) rfl rfl rfl (fun M53 N53 w59 hle58 S59 => .inl (run_indexM (C := cdInt) c rfl rfl rfl sl33 (by first | rfl | omega) (hr13.mono (Hp.un_mono hle58 S59.mx)) (by first | omega | (simp only [lens]; omega)))) ?_
             refine wa_take (i := 20) (d := 109) 12 rfl (by kernel_rfl) (by kernel_rfl) (by kernel_rfl) rfl rfl rfl (fun M54 N54 w60 hle59 S60 => .inl (run_load1 rfl rfl Try.underlying3 rfl ((hr13.mono (Hp.un_mono hle59 S60.mx)).cell S60.um (i := c) (by first | omega | (simp only [lens]; omega)) 0 rfl rfl))) ?_
             refine wa_take (i := 21) (d := 110) 11 rfl (by kernel_rfl) (by kernel_rfl) (by kernel_rfl) rfl rfl rfl (fun M55 N55 w61 hle60 S61 => .inl (run_indexM (C := (cdV 33)) ((ga (ga q a) c).toNat) rfl rfl rfl sl34 (by first | rfl | omega) (hq.mono (Hp.un_mono hle60 S61.mx)) (by first | omega | (simp only [lens]; omega)))) ?_
             obtain ⟨hn14, hr14⟩ := hdq.2 ((ga (ga q a) c).toNat) (by first | omega | (simp only [lens]; omega))
             have rmhr14 : (ga q ((ga (ga q a) c).toNat)).length * 8 ≤ 140737488355328 := hr14.room
             refine wa_take (i := 22) (d := 111) 10 rfl (by kernel_rfl) (by kernel_rfl) (by kernel_rfl) rfl rfl rfl (fun M56 N56 w62 hle61 S62 => .inl (run_load1 rfl rfl Try.underlying33 rfl ((hq.mono (Hp.un_mono hle61 S62.mx)).cell S62.um (i := (ga (ga q a) c).toNat) (by first | omega | (simp only [lens]; omega)) 0 rfl (congrArg (fun n => some (Value.slice _ n _)) hn14)))) ?_
             refine wa_takeP (i := 23) (d := 112) 9 rfl (by kernel_rfl) (by kernel_rfl) (by kernel_rfl) rfl rfl rfl (fun w63 => run_move rfl rfl) ?_
             refine wa_takeP (i := 24) (d := 113) 8 rfl (by kernel_rfl) (by kernel_rfl) (by kernel_rfl) rfl rfl rfl (fun w64 => run_move rfl rfl) ?_
             refine wa_take (i := 25) (d := 114) 7 rfl (by kernel_rfl) (by kernel_rfl) (by kernel_rfl) rfl rfl rfl (fun M59 N59 w65 hle64 S65 => .inl (run_indexM (C := (cdV 33)) b rfl rfl rfl sl34 (by first | rfl | omega) (hq.mono (Hp.un_mono hle64 S65.mx)) (by first | omega | (simp only [lens]; omega)))) ?_
             obtain ⟨hn15, hr15⟩ := hdq.2 b (by first | omega | (simp only [lens]; omega))
             have rmhr15 : (ga q b).length * 8 ≤ 140737488355328 := hr15.room
             refine wa_take (i := 26) (d := 115) 6 rfl (by kernel_rfl) (by kernel_rfl) (by kernel_rfl) rfl rfl rfl (fun M60 N60 w66 hle65 S66 => .inl (run_load1 rfl rfl Try.underlying33 rfl ((hq.mono (Hp.un_mono hle65 S66.mx)).cell S66.um (i := b) (by first | omega | (simp only [lens]; omega)) 0 rfl (congrArg (fun n => some (Value.slice _ n _)) hn15)))) ?_
             refine wa_takeP (i := 27) (d := 116) 5 rfl (by kernel_rfl) (by kernel_rfl) (by kernel_rfl) rfl rfl rfl (fun w67 => run_move rfl rfl) ?_
             refine wa_take (i := 28) (d := 117) 4 rfl (by kernel_rfl) (by kernel_rfl) (by kernel_rfl) rfl rfl rfl (fun M62 N62 w68 hle67 S68 => .inl (run_indexM (C := cdInt) c rfl rfl rfl sl33 (by first | rfl | omega) (hr15.mono (Hp.un_mono hle67 S68.mx)) (by first | omega | (simp only [lens]; omega)))) ?_
             refine wa_take (i := 29) (d := 118) 3 rfl (by kernel_rfl) (by kernel_rfl) (by kernel_rfl) rfl rfl rfl (fun M63 N63 w69 hle68 S69 => .inl (run_load1 rfl rfl Try.underlying3 rfl ((hr15.mono (Hp.un_mono hle68 S69.mx)).cell S69.um (i := c) (by first | omega | (simp only [lens]; omega)) 0 rfl rfl))) ?_
             refine wa_take (i := 30) (d := 119) 2 rfl (by kernel_rfl) (by kernel_rfl) (by kernel_rfl) rfl rfl rfl (fun M64 N64 w70 hle69 S70 => .inl (run_indexM (C := cdInt) ((ga (ga q b) c).toNat) rfl rfl rfl sl33 (by first | rfl | omega) (hr14.mono (Hp.un_mono hle69 S70.mx)) (by first | omega | (simp only [lens]; omega)))) ?_
             refine wa_take (i := 31) (d := 120) 1 rfl (by kernel_rfl) (by kernel_rfl) (by kernel_rfl) rfl rfl rfl (fun M65 N65 w71 hle70 S71 => .inl (run_load1 rfl rfl Try.underlying3 rfl ((hr14.mono (Hp.un_mono hle70 S71.mx)).cell S71.um (i := (ga (ga q b) c).toNat) (by first | omega | (simp only [lens]; omega)) 0 rfl rfl))) ?_
             refine wa_takeP (i := 32) (d := 121) 0 rfl (by kernel_rfl) (by kernel_rfl) (by kernel_rfl) rfl rfl rfl (fun w72 => run_neq rfl rfl rfl) ?_
             refine wa_end (by kernel_rfl) (fun w73 S73 => ?_)
             refine nm_sub [(0, _), (3, _), (6, _), (7, _), (8, _), (9, _), (121, _)] ⟨rfl, rfl, rfl, rfl, rfl, rfl, rfl, trivial⟩ ?_
             refine nm_thn ?_
             refine ws_condN QuandleMay_n116 QuandleMay_n117 rfl rfl rfl rfl (fun hb121 => ?_) (fun hb121 => ?_)
             ·replace hb121 := of_decide_eq_true hb121
              refine ws_seqN QuandleMay_n118 QuandleMay_n119 rfl rfl rfl ?_
              refine ws_region rfl ?_
              refine wla 0 1 rfl rfl rfl rfl rfl rfl rfl ?_
              refine wl_end rfl ?_
              refine nm_sub [(2, _)] ⟨rfl, trivial⟩ ?_
              refine nm_thn ?_
              refine ws_ret hC [_] rfl rfl ⟨rfl, trivial⟩ ?_
              exact ⟨_, rfl, (S73.pick [] [] (by decide) trivial), (congrArg (Value.int .i64) (quE_6 hQF (fun h => by first | (have := (h b (by omega)).1; unfold q2 at this; omega) | (have h9 := ((h b (by omega)).2 c (by omega)).1 a (by omega); unfold dstQ q2 at h9; omega) | (have h9 := ((h b (by omega)).2 c (by omega)).2; have e9 : a = q.length := (by omega); rw [← e9] at h9; omega))).symm)⟩
             ·replace hb121 := of_decide_eq_false hb121
              refine ws_skip rfl ?_
              refine nm_blk ?_
              refine nm_sub [(0, _), (3, _), (6, _), (7, _), (8, _), (9, _)] ⟨rfl, rfl, rfl, rfl, rfl, rfl, trivial⟩ ?_
              refine nm_thn ?_
              refine ws_eq 8 (.int .i64 ((cntQ q b c (a + 1) : Nat) : Int)) rfl (int_eq (by first | exact cntQ_t hb86 | exact cntQ_f hb86)) ?_
              refine ws_region rfl ?_
              refine wlm 0 1 rfl rfl rfl rfl rfl rfl rfl ?_
              refine wlo 1 2 rfl rfl rfl (wo_run rfl rfl (run_add rfl rfl rfl (by first | omega | (simp only [lens]; omega))) ?_)
              refine wla 2 3 rfl rfl rfl rfl rfl rfl rfl ?_
              refine wl_end rfl ?_
              refine nm_lp ?_
              intro ax_ hax_
              refine ⟨_, ?hq9m, ⟨a + 1, rfl, hax_.sub ⟨rfl, rfl, rfl, rfl, rfl, rfl, trivial⟩, S73.pick [] [] (by decide) trivial, ?hq9f0, ?hq9f1⟩⟩
              case hq9f0 => omega
              case hq9f1 => (intro i hi; by_cases e : i = a; (subst e; unfold dstQ q2; omega); exact hK4 i (by omega))
              case hq9m => omega
           ·replace hb75 := of_decide_eq_false hb75
            refine ws_exit rfl rfl ?_
            refine nm_sub [(0, _), (3, _), (6, _), (7, _), (8, _)] ⟨rfl, rfl, rfl, rfl, rfl, trivial⟩ ?_
            refine nm_thn ?_
            refine ws_seqN QuandleMay_n120 QuandleMay_n121 rfl rfl rfl ?_
            refine ws_region rfl ?_
            refine wlm 0 1 rfl rfl rfl rfl rfl rfl rfl ?_
            refine wlo 1 2 rfl rfl rfl (wo_run rfl rfl (run_neq rfl rfl rfl) ?_)
            refine wl_end rfl ?_
            refine nm_sub [(0, _), (3, _), (6, _), (7, _), (123, _)] ⟨rfl, rfl, rfl, rfl, rfl, trivial⟩ ?_
            refine nm_thn ?_
            refine ws_condN QuandleMay_n122 QuandleMay_n123 rfl rfl rfl rfl (fun hb123 => ?_) (fun hb123 => ?_)
            ·replace hb123 := of_decide_eq_true hb123
             refine ws_seqN QuandleMay_n124 QuandleMay_n125 rfl rfl rfl ?_
             refine ws_region rfl ?_
             refine wla 0 1 rfl rfl rfl rfl rfl rfl rfl ?_
             refine wl_end rfl ?_
             refine nm_sub [(2, _)] ⟨rfl, trivial⟩ ?_
             refine nm_thn ?_
             refine ws_ret hC [_] rfl rfl ⟨rfl, trivial⟩ ?_
             exact ⟨_, rfl, (S5.pick [] [] (by decide) trivial), (congrArg (Value.int .i64) (quE_6 hQF (fun h => by first | (have := (h b (by omega)).1; unfold q2 at this; omega) | (have h9 := ((h b (by omega)).2 c (by omega)).1 a (by omega); unfold dstQ q2 at h9; omega) | (have h9 := ((h b (by omega)).2 c (by omega)).2; have e9 : a = q.length := (by omega); rw [← e9] at h9; omega))).symm)⟩
            ·replace hb123 := of_decide_eq_false hb123
             refine ws_skip rfl ?_
             refine nm_blk ?_
             refine nm_sub [(0, _), (3, _), (6, _), (7, _)] ⟨rfl, rfl, rfl, rfl, trivial⟩ ?_
             refine nm_thn ?_
             refine ws_region rfl ?_
             refine wlm 0 1 rfl rfl rfl rfl rfl rfl rfl ?_
             refine wlo 1 2 rfl rfl rfl (wo_run rfl rfl (run_add rfl rfl rfl (by first | omega | (simp only [lens]; omega))) ?_)
             refine wla 2 3 rfl rfl rfl rfl rfl rfl rfl ?_
             refine wl_end rfl ?_
             refine nm_lp ?_
             intro ax_ hax_
             refine ⟨_, ?hq10m, ⟨c + 1, rfl, hax_.sub ⟨rfl, rfl, rfl, rfl, trivial⟩, S5.pick [] [] (by decide) trivial, ?hq10f0, ?hq10f1⟩⟩
             case hq10f0 => omega
             case hq10f1 => (intro i hi; by_cases e : i = c; (subst e; exact ⟨fun a0 ha0 => hK4 a0 (by omega), by (have e9 : a = q.length := (by omega); rw [← e9]; omega)⟩); exact hK3 i (by omega))
             case hq10m => omega
         ·replace hb70 := of_decide_eq_false hb70
          refine ws_exit rfl rfl ?_
          refine nm_blk ?_
          refine nm_sub [(0, _), (3, _), (6, _)] ⟨rfl, rfl, rfl, trivial⟩ ?_
          refine nm_thn ?_
          refine ws_region rfl ?_
          refine wlm 0 1 rfl rfl rfl rfl rfl rfl rfl ?_
          refine wlo 1 2 rfl rfl rfl (wo_run rfl rfl (run_add rfl rfl rfl (by first | omega | (simp only [lens]; omega))) ?_)
          refine wla 2 3 rfl rfl rfl rfl rfl rfl rfl ?_
          refine wl_end rfl ?_
          refine nm_lp ?_
          intro ax_ hax_
          refine ⟨_, ?hq11m, ⟨b + 1, rfl, hax_.sub ⟨rfl, rfl, rfl, trivial⟩, S4.pick [] [] (by decide) trivial, ?hq11f0, ?hq11f1⟩⟩
          case hq11f0 => omega
          case hq11f1 => (intro i hi; by_cases e : i = b; (subst e; exact ⟨by unfold q2; omega, fun c hc => hK3 c (by omega)⟩); exact hK i (by omega))
          case hq11m => omega
      ·replace hb56 := of_decide_eq_false hb56
       refine ws_exit rfl rfl ?_
       refine nm_sub [] trivial ?_
       refine nm_thn ?_
       refine ws_seqN QuandleMay_n126 QuandleMay_n127 rfl rfl rfl ?_
       refine ws_region rfl ?_
       refine wla 0 1 rfl rfl rfl rfl rfl rfl rfl ?_
       refine wl_end rfl ?_
       refine nm_thn ?_
       refine ws_ret hC [_] rfl rfl ⟨rfl, trivial⟩ ?_
       exact ⟨_, rfl, (S3.pick [] [] (by decide) trivial), (congrArg (Value.int .i64) (quE_0 hQF (fun i hi => hK i (by omega))).symm)⟩
end Go.Proofs.Ytefkjfcncpmneaa
namespace Go.Proofs.Ytefkjfcncpmneaa
open Go.ChangeShapes Go.WideShapes Go.ChangeAt Go.RowKit
section
variable {α : Type} {C : Cd α} {N N' : Hp} {vs vs' : List SlV} {xss yss : List (List α)}
/-- The inner lists' own lists. -/
def RdD (C : Cd α) (N : Hp) (svs : List (List SlV)) (mm : List (List (List α))) : Prop := svs.length = mm.length ∧ ∀ i, i < svs.length → Rd2 C N (ga svs i) (ga mm i)
variable {svs : List (List SlV)} {mm : List (List (List α))}
theorem RdD.nil_ : RdD C N [] [] := ⟨rfl, fun i hi => by simp at hi⟩
end
section
variable {P : Program} {o : Oper} {L : List (Nat × Value)} {w : World} {x hx : Operand} {t tn T : TypeId} {n d : Nat} {Kt : List (Nat × Value) → World → Prop} {M : Hp} {X : Fr} {H : List Rs}
end
end Go.Proofs.Ytefkjfcncpmneaa
namespace Go.Proofs.Ytefkjfcncpmneaa
open Go.ChangeShapes Go.WideShapes Go.ChangeAt Go.RowKit
/-- No block stands in two things. -/
def apartL (H : List Rs) : Prop := H.Pairwise fun r s => ∀ b ∈ r.bl, b ∉ s.bl
theorem apart_iff {H : List Rs} : apartL H ↔ ∀ (i j : Nat) r s, i ≠ j → H[i]? = some r → H[j]? = some s → ∀ b ∈ r.bl, b ∉ s.bl := by
  unfold apartL
  rw [List.pairwise_iff_getElem]
  constructor
  · intro h i j r s hij hi hj b hb hbs
    obtain ⟨i1, e1⟩ := List.getElem?_eq_some_iff.1 hi
    obtain ⟨j1, e2⟩ := List.getElem?_eq_some_iff.1 hj
    rcases Nat.lt_or_ge i j with h1 | h1
    · exact h i j i1 j1 h1 b (by rw [e1]; exact hb) (by rw [e2]; exact hbs)
    · exact h j i j1 i1 (by omega) b (by rw [e2]; exact hbs) (by rw [e1]; exact hb)
  · intro h i j hi hj hij
    exact h i j _ _ (by omega) (List.getElem?_eq_getElem hi) (List.getElem?_eq_getElem hj)
section
variable {w : World} {M : Hp} {X : Fr} {A B H H' : List Rs}
theorem SH.bunC (S : SH w M X (A ++ B)) : SH w M X (Rs.bun A :: B) := by
  have hap := apart_iff.2 S.ap
  obtain ⟨h1, h2, h3⟩ := List.pairwise_append.1 hap
  refine ⟨S.m, S.x, S.mx, fun r hr => ?_, fun r hr b hb => ?_, apart_iff.1 (List.pairwise_cons.2 ⟨fun s hs b hb => ?_, h2⟩), S.like⟩
  · rcases List.mem_cons.1 hr with rfl | hr
    · exact ⟨fun r hr => S.ok r (by simp [hr]), apart_iff.1 h1⟩
    · exact S.ok r (by simp [hr])
  · rcases List.mem_cons.1 hr with rfl | hr
    · obtain ⟨q, hq, hb⟩ := List.mem_flatMap.1 hb
      exact S.bl q (by simp [hq]) b hb
    · exact S.bl r (by simp [hr]) b hb
  · obtain ⟨q, hq, hb⟩ := List.mem_flatMap.1 hb
    exact h3 q hq s hs b hb
theorem SH.unbunC (S : SH w M X (Rs.bun A :: B)) : SH w M X (A ++ B) := by
  obtain ⟨hok, hap⟩ := S.ok (Rs.bun A) (by simp)
  obtain ⟨h1, h2⟩ := List.pairwise_cons.1 (apart_iff.2 S.ap)
  refine ⟨S.m, S.x, S.mx, fun r hr => ?_, fun r hr b hb => ?_, apart_iff.1 (List.pairwise_append.2 ⟨apart_iff.2 hap, h2, fun r hr s hs b hb => h1 s hs b (List.mem_flatMap.2 ⟨r, hr, hb⟩)⟩), S.like⟩
  · rcases List.mem_append.1 hr with hr | hr
    · exact hok r hr
    · exact S.ok r (by simp [hr])
  · rcases List.mem_append.1 hr with hr | hr
    · exact S.bl (Rs.bun A) (by simp) b (List.mem_flatMap.2 ⟨r, hr, hb⟩)
    · exact S.bl r (by simp [hr]) b hb
end
namespace InF
section
variable {P : Program} {n : Nat} {C : Ctx} {c : Code} {s : List K} {L : List (Nat × Value)} {w : World} {M : Hp} {X : Fr} {H : List Rs}
end
end InF
end Go.Proofs.Ytefkjfcncpmneaa
namespace Go.Proofs.Ytefkjfcncpmneaa
open Go.ChangeShapes Go.WideShapes Go.ChangeAt Go.RowKit
section
variable {P : Program} {o : Oper} {L : List (Nat × Value)} {w : World} {n d : Nat} {Kt : List (Nat × Value) → World → Prop} {M : Hp} {X : Fr} {H : List Rs} {i : Nat} {r : Rs}
theorem SH.less (S : SH w M X H) (hi : nth H i = some r) : SH w M X (H.set i Rs.emp) := S.step hi rfl (Like.refl w) (fun _ _ _ => rfl) trivial (fun b hb => by cases hb)
theorem wo_c1F {f : FuncId} {vs cap : List Value} {ca : Call} {fo : Operand} {xs : List Operand} (hd : o.dst = some d) (hop : o.op = .call ca) (hca : ca.callee = .value fo) (hfo : oev L fo = some (.func (.func f) #[] cap.toArray))
    (hxs : ca.args = xs.toArray) (hvs : oevs L xs = some vs) (hn : Nat.blt d n = true) (hen : ∀ args w, (callFunc f args).run P w = .ok (.enter f args) w) (S : SH w M X H) (hi : nth H i = some r)
    {R : Value → Hp → Rs → Prop} (hcall : C1 P f (vs ++ cap) w M (XH w X (H.set i Rs.emp)) R) (h : ∀ v w' M' r', M.le M' → SH w' M' X (H.set i r') → R v M' r' → Kt ((d, v) :: L) w') : WO P n o L w Kt := by
  intro a ha next Q hk
  have hr : (execOp a.eval o).run P w = .ok (.enter f (vs ++ cap).toArray) w := by
    unfold execOp
    simp only [hop, resolve, hca, ha.eval hfo, hxs, List.map_toArray, ha.evals hvs, Deferred.ofValue, Sem.run_bind, Sem.run_pure, Result.andThen_ok, invoke, Array.empty_append, List.append_toArray]
    exact hen _ _
  unfold Oper.wp
  rw [hr, Oper.upon_enter, hd]
  refine hcall.mono ?_
  rintro e w' ⟨v, rfl, M', r', h1, h2, h4⟩
  exact hk _ _ _ (ha.put (by simpa using hn) v) (h v w' M' r' h1 (S.back1 hi h2 rfl) h4)
end
end Go.Proofs.Ytefkjfcncpmneaa
namespace Go.Proofs.Ytefkjfcncpmneaa
open Go.ChangeShapes Go.WideShapes Go.ChangeAt Go.RowKit
def upd {α : Type} (h : Nat → α) (e : Nat) (v : α) (k : Nat) : α := if k = e then v else h k
theorem nth_fn4 {e : Nat} (f : Nat → Value) (h : e < 4) : nth [f 0, f 1, f 2, f 3] (0 + e * 1) = some (f e) := by
  have : e = 0 ∨ e = 1 ∨ e = 2 ∨ e = 3 := by omega
  rcases this with rfl | rfl | rfl | rfl <;> rfl
theorem ble_fn4 {e : Nat} (f : Nat → Value) (v : Value) (h : e < 4) : Nat.ble (0 + e * 1 + [v].length) [f 0, f 1, f 2, f 3].length = true := by
  have : e = 0 ∨ e = 1 ∨ e = 2 ∨ e = 3 := by omega
  rcases this with rfl | rfl | rfl | rfl <;> rfl
theorem spl_fn4 {e : Nat} (f : Nat → Value) (v : Value) (h : e < 4) : spl [f 0, f 1, f 2, f 3] (0 + e * 1) [v] = [upd f e v 0, upd f e v 1, upd f e v 2, upd f e v 3] := by
  have : e = 0 ∨ e = 1 ∨ e = 2 ∨ e = 3 := by omega
  rcases this with rfl | rfl | rfl | rfl <;> rfl
theorem upd_bool (h : Nat → Bool) (e : Nat) (v : Bool) (k : Nat) : upd (fun k => Value.bool (h k)) e (.bool v) k = .bool (upd h e v k) := by
  unfold upd; split <;> rfl
theorem spl_b4 {e : Nat} (h : Nat → Bool) (v : Bool) (he : e < 4) : spl [Value.bool (h 0), Value.bool (h 1), Value.bool (h 2), Value.bool (h 3)] (0 + e * 1) [Value.bool v] = [Value.bool (upd h e v 0), Value.bool (upd h e v 1), Value.bool (upd h e v 2), Value.bool (upd h e v 3)] := by
  have := spl_fn4 (fun k => Value.bool (h k)) (.bool v) he
  simpa only [upd_bool] using this
end Go.Proofs.Ytefkjfcncpmneaa
