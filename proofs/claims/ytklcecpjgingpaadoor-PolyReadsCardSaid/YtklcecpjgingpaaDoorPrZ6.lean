/- Part 6 of the proof of the law PolyReads: the walks through its functions and the plain laws that they need. -/
import Derived.Test.YtklcecpjgingpaaDoorPrZ5
import Derived.LaidMore
import Derived.LaidHandle
import Derived.Stop.Joined
set_option linter.unusedSimpArgs false
set_option linter.unusedVariables false
namespace Go.Proofs.YtklcecpjgingpaaDoor
open Go.ChangeShapes Go.WideShapes Go.ChangeAt Go.RowKit
theorem sg_a {s : List UInt8} {k : Nat} (hk : k = 0) (h : ga s 0 = 45) : sgR s k = some (-1, k + 1) := by unfold sgR; rw [if_pos hk, if_pos h, hk]
theorem sg_b {s : List UInt8} {k : Nat} (hk : k = 0) (h : ¬ ga s 0 = 45) : sgR s k = some (1, k) := by unfold sgR; rw [if_pos hk, if_neg h, hk]
theorem sg_c {s : List UInt8} {k : Nat} (hk : ¬ k = 0) (hl : k + 3 ≤ s.length) (h0 : ga s k = 32) (h1 : ga s (k + 1) = 43 ∨ ga s (k + 1) = 45) (h2 : ga s (k + 2) = 32) : sgR s k = some (if ga s (k + 1) = 45 then -1 else 1, k + 3) := by
 unfold sgR
 rw [if_neg hk, if_neg]
 rintro (h | h | h | h)
 ·omega
 ·exact h h0
 ·rcases h1 with e | e
  ·exact h.1 e
  ·exact h.2 e
 ·exact h h2
theorem sg_c1 {s : List UInt8} {k : Nat} (hk : ¬ k = 0) (hl : k + 3 ≤ s.length) (h0 : ga s k = 32) (h1 : ga s (k + 1) = 45) (h2 : ga s (k + 2) = 32) : sgR s k = some (-1, k + 3) := by rw [sg_c hk hl h0 (.inr h1) h2, if_pos h1]
theorem sg_c2 {s : List UInt8} {k : Nat} (hk : ¬ k = 0) (hl : k + 3 ≤ s.length) (h0 : ga s k = 32) (h1 : ga s (k + 1) = 43) (h2 : ga s (k + 2) = 32) : sgR s k = some (1, k + 3) := by rw [sg_c hk hl h0 (.inl h1) h2, if_neg (by rw [h1]; decide)]
theorem sg_n {s : List UInt8} {k : Nat} (hk : ¬ k = 0) (h : s.length < k + 3 ∨ ¬ ga s k = 32 ∨ (¬ ga s (k + 1) = 43 ∧ ¬ ga s (k + 1) = 45) ∨ ¬ ga s (k + 2) = 32) : sgR s k = none := by unfold sgR; rw [if_neg hk, if_pos h]
theorem st_y {s : List UInt8} {i : Nat} (h : i < s.length) (h2 : ga s i = 42) : stR s i = i + 1 := by unfold stR; rw [if_pos ⟨h, h2⟩]
theorem st_n1 {s : List UInt8} {i : Nat} (h : ¬ i < s.length) : stR s i = i := by unfold stR; rw [if_neg (fun e => h e.1)]
theorem st_n2 {s : List UInt8} {i : Nat} (h : ¬ ga s i = 42) : stR s i = i := by unfold stR; rw [if_neg (fun e => h e.2)]
theorem ex_n1 {s : List UInt8} {j : Nat} (h : ¬ j < s.length) : exR s j = (0, j) := by unfold exR; rw [if_neg (fun e => h e.1)]
theorem ex_n2 {s : List UInt8} {j : Nat} (h : ¬ ga s j = 116) : exR s j = (0, j) := by unfold exR; rw [if_neg (fun e => h e.2)]
theorem ex_t1 {s : List UInt8} {j : Nat} (h : j < s.length) (h2 : ga s j = 116) (h3 : ¬ j + 1 < s.length) : exR s j = (1, j + 1) := by unfold exR; rw [if_pos ⟨h, h2⟩, if_neg (fun e => h3 e.1)]
theorem ex_t2 {s : List UInt8} {j : Nat} (h : j < s.length) (h2 : ga s j = 116) (h3 : ¬ ga s (j + 1) = 94) : exR s j = (1, j + 1) := by unfold exR; rw [if_pos ⟨h, h2⟩, if_neg (fun e => h3 e.2)]
theorem ex_p {s : List UInt8} {j : Nat} (h : j < s.length) (h2 : ga s j = 116) (h3 : j + 1 < s.length) (h4 : ga s (j + 1) = 94) (h5 : ¬ j + 2 < s.length ∨ ¬ ga s (j + 2) = 45) : exR s j = (((wh s (j + 2)).1 : Int), (wh s (j + 2)).2) := by
 have hn : ¬ isC s (j + 2) 45 := fun e => h5.elim (fun k => k e.1) fun k => k e.2
 unfold exR negE negK; rw [if_pos ⟨h, h2⟩, if_pos ⟨h3, h4⟩, if_neg hn, if_neg hn]
theorem ex_m {s : List UInt8} {j : Nat} (h : j < s.length) (h2 : ga s j = 116) (h3 : j + 1 < s.length) (h4 : ga s (j + 1) = 94) (h5 : j + 2 < s.length) (h6 : ga s (j + 2) = 45) : exR s j = (-((wh s (j + 3)).1 : Int), (wh s (j + 3)).2) := by
 have hn : isC s (j + 2) 45 := ⟨h5, h6⟩
 unfold exR negE negK; rw [if_pos ⟨h, h2⟩, if_pos ⟨h3, h4⟩, if_pos hn, if_pos hn]
theorem co_1 {s : List UInt8} {k : Nat} (h : (wh s k).2 = k) : coR s k = 1 := by unfold coR; rw [if_pos h]
theorem co_w {s : List UInt8} {k : Nat} (h : ¬ (wh s k).2 = k) : coR s k = ((wh s k).1 : Int) := by unfold coR; rw [if_neg h]
noncomputable def ReadPoly_n0 : Code := Tryd.f6.body.getD .skip
noncomputable def ReadPoly_n1 : Code := cL ReadPoly_n0
noncomputable def ReadPoly_n2 : Code := cR ReadPoly_n0
noncomputable def ReadPoly_n3 : Code := cL ReadPoly_n2
noncomputable def ReadPoly_n4 : Code := cR ReadPoly_n2
noncomputable def ReadPoly_n5 : Code := cL ReadPoly_n3
noncomputable def ReadPoly_n6 : Code := cR ReadPoly_n3
noncomputable def ReadPoly_n7 : Code := cL ReadPoly_n6
noncomputable def ReadPoly_n8 : Code := cR ReadPoly_n6
noncomputable def ReadPoly_n9 : Code := cL ReadPoly_n7
noncomputable def ReadPoly_n10 : Code := cR ReadPoly_n7
noncomputable def ReadPoly_n11 : Code := cL ReadPoly_n4
noncomputable def ReadPoly_n12 : Code := cR ReadPoly_n4
noncomputable def ReadPoly_n13 : Code := cL ReadPoly_n11
noncomputable def ReadPoly_n14 : Code := cR ReadPoly_n11
noncomputable def ReadPoly_n15 : Code := cL ReadPoly_n14
noncomputable def ReadPoly_n16 : Code := cR ReadPoly_n14
noncomputable def ReadPoly_n17 : Code := cL ReadPoly_n15
noncomputable def ReadPoly_n18 : Code := cR ReadPoly_n15
noncomputable def ReadPoly_n19 : Code := cL ReadPoly_n12
noncomputable def ReadPoly_n20 : Code := cR ReadPoly_n12
noncomputable def ReadPoly_n21 : Code := cL ReadPoly_n20
noncomputable def ReadPoly_n22 : Code := cR ReadPoly_n20
noncomputable def ReadPoly_n23 : Code := cL ReadPoly_n22
noncomputable def ReadPoly_n24 : Code := cR ReadPoly_n22
noncomputable def ReadPoly_n25 : Code := cL ReadPoly_n23
noncomputable def ReadPoly_n26 : Code := cL ReadPoly_n25
noncomputable def ReadPoly_n27 : Code := cL ReadPoly_n26
noncomputable def ReadPoly_n28 : Code := cR ReadPoly_n26
noncomputable def ReadPoly_n29 : Code := cL ReadPoly_n27
noncomputable def ReadPoly_n30 : Code := cR ReadPoly_n27
noncomputable def ReadPoly_n31 : Code := cL ReadPoly_n30
noncomputable def ReadPoly_n32 : Code := cR ReadPoly_n30
noncomputable def ReadPoly_n33 : Code := cL ReadPoly_n28
noncomputable def ReadPoly_n34 : Code := cL ReadPoly_n33
noncomputable def ReadPoly_n35 : Code := cR ReadPoly_n33
noncomputable def ReadPoly_n36 : Code := cL ReadPoly_n35
noncomputable def ReadPoly_n37 : Code := cR ReadPoly_n35
noncomputable def ReadPoly_n38 : Code := cL ReadPoly_n36
noncomputable def ReadPoly_n39 : Code := cR ReadPoly_n36
noncomputable def ReadPoly_n40 : Code := cL ReadPoly_n39
noncomputable def ReadPoly_n41 : Code := cR ReadPoly_n39
noncomputable def ReadPoly_n42 : Code := cL ReadPoly_n40
noncomputable def ReadPoly_n43 : Code := cR ReadPoly_n40
noncomputable def ReadPoly_n44 : Code := cL ReadPoly_n41
noncomputable def ReadPoly_n45 : Code := cR ReadPoly_n41
noncomputable def ReadPoly_n46 : Code := cL ReadPoly_n45
noncomputable def ReadPoly_n47 : Code := cR ReadPoly_n45
noncomputable def ReadPoly_n48 : Code := cL ReadPoly_n46
noncomputable def ReadPoly_n49 : Code := cR ReadPoly_n46
noncomputable def ReadPoly_n50 : Code := cL ReadPoly_n48
noncomputable def ReadPoly_n51 : Code := cR ReadPoly_n48
noncomputable def ReadPoly_n52 : Code := cL ReadPoly_n51
noncomputable def ReadPoly_n53 : Code := cR ReadPoly_n51
noncomputable def ReadPoly_n54 : Code := cL ReadPoly_n52
noncomputable def ReadPoly_n55 : Code := cR ReadPoly_n52
noncomputable def ReadPoly_n56 : Code := cL ReadPoly_n49
noncomputable def ReadPoly_n57 : Code := cR ReadPoly_n49
noncomputable def ReadPoly_n58 : Code := cL ReadPoly_n56
noncomputable def ReadPoly_n59 : Code := cR ReadPoly_n56
noncomputable def ReadPoly_n60 : Code := cL ReadPoly_n59
noncomputable def ReadPoly_n61 : Code := cR ReadPoly_n59
noncomputable def ReadPoly_n62 : Code := cL ReadPoly_n37
noncomputable def ReadPoly_n63 : Code := cR ReadPoly_n37
noncomputable def ReadPoly_n64 : Code := cL ReadPoly_n63
noncomputable def ReadPoly_n65 : Code := cR ReadPoly_n63
noncomputable def ReadPoly_n66 : Code := cL ReadPoly_n64
noncomputable def ReadPoly_n67 : Code := cR ReadPoly_n64
noncomputable def ReadPoly_n68 : Code := cL ReadPoly_n67
noncomputable def ReadPoly_n69 : Code := cR ReadPoly_n67
noncomputable def ReadPoly_n70 : Code := cL ReadPoly_n65
noncomputable def ReadPoly_n71 : Code := cR ReadPoly_n65
noncomputable def ReadPoly_n72 : Code := cL ReadPoly_n71
noncomputable def ReadPoly_n73 : Code := cR ReadPoly_n71
noncomputable def ReadPoly_n74 : Code := cL ReadPoly_n73
noncomputable def ReadPoly_n75 : Code := cR ReadPoly_n73
noncomputable def ReadPoly_n76 : Code := cL ReadPoly_n74
noncomputable def ReadPoly_n77 : Code := cR ReadPoly_n74
noncomputable def ReadPoly_n78 : Code := cL ReadPoly_n77
noncomputable def ReadPoly_n79 : Code := cR ReadPoly_n77
noncomputable def ReadPoly_n80 : Code := cL ReadPoly_n75
noncomputable def ReadPoly_n81 : Code := cR ReadPoly_n75
noncomputable def ReadPoly_n82 : Code := cL ReadPoly_n80
noncomputable def ReadPoly_n83 : Code := cR ReadPoly_n80
noncomputable def ReadPoly_n84 : Code := cL ReadPoly_n83
noncomputable def ReadPoly_n85 : Code := cR ReadPoly_n83
noncomputable def ReadPoly_n86 : Code := cL ReadPoly_n84
noncomputable def ReadPoly_n87 : Code := cR ReadPoly_n84
noncomputable def ReadPoly_n88 : Code := cL ReadPoly_n87
noncomputable def ReadPoly_n89 : Code := cR ReadPoly_n87
noncomputable def ReadPoly_n90 : Code := cL ReadPoly_n89
noncomputable def ReadPoly_n91 : Code := cR ReadPoly_n89
noncomputable def ReadPoly_n92 : Code := cL ReadPoly_n91
noncomputable def ReadPoly_n93 : Code := cR ReadPoly_n91
noncomputable def ReadPoly_n94 : Code := cL ReadPoly_n92
noncomputable def ReadPoly_n95 : Code := cR ReadPoly_n92
noncomputable def ReadPoly_n96 : Code := cL ReadPoly_n95
noncomputable def ReadPoly_n97 : Code := cR ReadPoly_n95
noncomputable def ReadPoly_n98 : Code := cL ReadPoly_n97
noncomputable def ReadPoly_n99 : Code := cR ReadPoly_n97
noncomputable def ReadPoly_n100 : Code := cL ReadPoly_n98
noncomputable def ReadPoly_n101 : Code := cR ReadPoly_n98
noncomputable def ReadPoly_n102 : Code := cL ReadPoly_n101
noncomputable def ReadPoly_n103 : Code := cR ReadPoly_n101
noncomputable def ReadPoly_n104 : Code := cL ReadPoly_n99
noncomputable def ReadPoly_n105 : Code := cR ReadPoly_n99
noncomputable def ReadPoly_n106 : Code := cL ReadPoly_n105
noncomputable def ReadPoly_n107 : Code := cR ReadPoly_n105
noncomputable def ReadPoly_n108 : Code := cL ReadPoly_n107
noncomputable def ReadPoly_n109 : Code := cR ReadPoly_n107
noncomputable def ReadPoly_n110 : Code := cL ReadPoly_n108
noncomputable def ReadPoly_n111 : Code := cR ReadPoly_n108
noncomputable def ReadPoly_n112 : Code := cL ReadPoly_n111
noncomputable def ReadPoly_n113 : Code := cR ReadPoly_n111
noncomputable def ReadPoly_n114 : Code := cL ReadPoly_n81
noncomputable def ReadPoly_n115 : Code := cR ReadPoly_n81
noncomputable def ReadPoly_n116 : Code := cL ReadPoly_n114
noncomputable def ReadPoly_n117 : Code := cR ReadPoly_n114
noncomputable def ReadPoly_n118 : Code := cL ReadPoly_n117
noncomputable def ReadPoly_n119 : Code := cR ReadPoly_n117
noncomputable def ReadPoly_n120 : Code := cL ReadPoly_n118
noncomputable def ReadPoly_n121 : Code := cR ReadPoly_n118
noncomputable def ReadPoly_n122 : Code := cL ReadPoly_n115
noncomputable def ReadPoly_n123 : Code := cR ReadPoly_n115
noncomputable def ReadPoly_n124 : Code := cL ReadPoly_n24
noncomputable def ReadPoly_n125 : Code := cR ReadPoly_n24
noncomputable def ReadPoly_n126 : Code := cL ReadPoly_n124
noncomputable def ReadPoly_n127 : Code := cR ReadPoly_n124
noncomputable def ReadPoly_n128 : Code := cL ReadPoly_n127
noncomputable def ReadPoly_n129 : Code := cR ReadPoly_n127
noncomputable def ReadPoly_n130 : Code := cL ReadPoly_n128
noncomputable def ReadPoly_n131 : Code := cR ReadPoly_n128
noncomputable def ReadPoly_n132 : Code := cL ReadPoly_n125
noncomputable def ReadPoly_n133 : Code := cR ReadPoly_n125
set_option maxHeartbeats 4000000 in
set_option maxRecDepth 10000 in
theorem ReadPoly_t {w : World} {M : Hp} {X : Fr} (s : List UInt8) (S : SH w M X []) : Ct Tryd.prog 6 [.string (sB s)] w M X (TE (pieceR s (refR s))) := by
 unfold Ct
 refine calls_in (b := ReadPoly_n0) Tryd.func6 rfl Tryd.ntmps6 rfl (fun C hC => ?_)
 refine ws_sub [(0, _)] ⟨rfl, trivial⟩ ?_
 refine ws_seqN ReadPoly_n1 ReadPoly_n2 rfl rfl rfl ?_
 refine ws_region rfl ?_
 refine wla 0 1 rfl rfl rfl rfl rfl rfl rfl ?_
 refine wla 1 2 rfl rfl rfl rfl rfl rfl rfl ?_
 refine wl_end rfl ?_
 refine nm_sub [(0, _)] ⟨rfl, trivial⟩ ?_
 refine nm_thn ?_
 refine ws_seqN ReadPoly_n3 ReadPoly_n4 rfl rfl rfl ?_
 refine ws_seqN ReadPoly_n5 ReadPoly_n6 rfl rfl rfl ?_
 refine ws_region rfl ?_
 refine wlm 0 1 rfl rfl rfl rfl rfl rfl rfl ?_
 refine wlo 1 2 rfl rfl rfl (wo_run rfl rfl (run_lenS rfl rfl rfl rfl rfl rfl Tryd.underlying9) ?_)
 refine wlo 2 3 rfl rfl rfl (wo_run rfl rfl (run_gtr rfl rfl rfl) ?_)
 refine wl_end rfl ?_
 refine nm_sub [(0, _), (16, _)] ⟨rfl, rfl, trivial⟩ ?_
 refine nm_thn ?_
 refine ws_condN ReadPoly_n7 ReadPoly_n8 rfl rfl rfl rfl (fun hb16 => ?_) (fun hb16 => ?_)
 ·replace hb16 := of_decide_eq_true hb16
  refine ws_seqN ReadPoly_n9 ReadPoly_n10 rfl rfl rfl ?_
  refine ws_region rfl ?_
  refine wla 0 1 rfl rfl rfl rfl rfl rfl rfl ?_
  refine wla 1 2 rfl rfl rfl rfl rfl rfl rfl ?_
  refine wl_end rfl ?_
  refine nm_sub [(2, _), (3, _)] ⟨rfl, rfl, trivial⟩ ?_
  refine nm_thn ?_
  refine ws_ret hC [_, _] rfl rfl ⟨rfl, rfl, trivial⟩ ?_
  refine ⟨_, rfl, _, Hp.le_refl _, (S.pick [] [] (by decide) trivial), ?_⟩
  refine TE.of (p := ([], 2)) ⟨_, _, rfl, RdA.nil_⟩ ?_
  unfold pieceR
  rw [if_pos (by omega)]
 ·replace hb16 := of_decide_eq_false hb16
  refine ws_skip rfl ?_
  refine nm_sub [(0, _)] ⟨rfl, trivial⟩ ?_
  refine nm_thn ?_
  refine ws_seqN ReadPoly_n11 ReadPoly_n12 rfl rfl rfl ?_
  refine ws_seqN ReadPoly_n13 ReadPoly_n14 rfl rfl rfl ?_
  refine ws_region rfl ?_
  refine wlm 0 1 rfl rfl rfl rfl rfl rfl rfl ?_
  refine wlo 1 2 rfl rfl rfl (wo_run rfl rfl (run_eqlD rfl rfl rfl) ?_)
  refine wl_end rfl ?_
  refine nm_sub [(0, _), (18, _)] ⟨rfl, rfl, trivial⟩ ?_
  refine nm_thn ?_
  refine ws_condN ReadPoly_n15 ReadPoly_n16 rfl rfl rfl rfl (fun hb18 => ?_) (fun hb18 => ?_)
  ·replace hb18 := of_decide_eq_true hb18
   refine ws_seqN ReadPoly_n17 ReadPoly_n18 rfl rfl rfl ?_
   refine ws_region rfl ?_
   refine wla 0 1 rfl rfl rfl rfl rfl rfl rfl ?_
   refine wla 1 2 rfl rfl rfl rfl rfl rfl rfl ?_
   refine wl_end rfl ?_
   refine nm_sub [(2, _), (3, _)] ⟨rfl, rfl, trivial⟩ ?_
   refine nm_thn ?_
   refine ws_ret hC [_, _] rfl rfl ⟨rfl, rfl, trivial⟩ ?_
   refine ⟨_, rfl, _, Hp.le_refl _, (S.pick [] [] (by decide) trivial), ?_⟩
   refine TE.of (p := ([], 0)) ⟨_, _, rfl, RdA.nil_⟩ ?_
   unfold pieceR
   rw [if_neg (by omega), if_pos (by assumption)]
  ·replace hb18 := of_decide_eq_false hb18
   refine ws_skip rfl ?_
   refine nm_sub [(0, _)] ⟨rfl, trivial⟩ ?_
   refine nm_thn ?_
   refine ws_seqN ReadPoly_n19 ReadPoly_n20 rfl rfl rfl ?_
   refine ws_region rfl ?_
   refine wla 0 1 rfl rfl rfl rfl rfl rfl rfl ?_
   refine wl_end rfl ?_
   refine nm_thn ?_
   refine ws_seqN ReadPoly_n21 ReadPoly_n22 rfl rfl rfl ?_
   refine ws_region rfl ?_
   refine wla 0 1 rfl rfl rfl rfl rfl rfl rfl ?_
   refine wl_end rfl ?_
   refine nm_thn ?_
   refine ws_seqN ReadPoly_n23 ReadPoly_n24 rfl rfl rfl ?_
   refine ws_blockN ReadPoly_n25 0 rfl rfl rfl ?_
   have S1 := S.nilrow cdTm; clear S
   refine ws_loopE (fun mx_ ax_ wx_ => ∃ (k : Nat) (f : Nat) (acc : List Tm) (vro : Value) (M1 : Hp), M.le M1 ∧ mx_ = s.length - k ∧ Env 168 [(0, .string (sB s)), (4, vro), (5, .int .i64 (k : Int))] ax_ ∧ SH wx_ M1 X [Rs.row cdTm vro acc] ∧ runR s f k acc = runR s s.length 0 [] ∧ s.length ≤ k + f ∧ k ≤ s.length ∧ acc.length ≤ k) rfl ?_ ?_
   ·intro ax_ hax_
    refine ⟨_, ⟨0, s.length, _, _, _, Hp.le_refl _, rfl, hax_.sub ⟨rfl, rfl, rfl, trivial⟩, S1.pick [0] [_] (by decide) ⟨rfl, trivial⟩, ?hq1f0, ?hq1f1, ?hq1f2, ?hq1f3⟩⟩
    case hq1f0 => rfl
    case hq1f1 => omega
    case hq1f2 => omega
    case hq1f3 => (show 0 ≤ _; omega)
   ·rintro m1 a1 w1 ⟨k, f, acc, vro, M1, hle1, rfl, he1, S2, hrn, hf, hks, hal⟩
    clear S1
    refine ws_in he1 (c := ReadPoly_n26) rfl ?_
    clear he1 a1
    refine ws_seqN ReadPoly_n27 ReadPoly_n28 rfl rfl rfl ?_
    refine ws_seqN ReadPoly_n29 ReadPoly_n30 rfl rfl rfl ?_
    refine ws_region rfl ?_
    refine wlm 0 1 rfl rfl rfl rfl rfl rfl rfl ?_
    refine wlm 1 2 rfl rfl rfl rfl rfl rfl rfl ?_
    refine wlo 2 3 rfl rfl rfl (wo_run rfl rfl (run_lenS rfl rfl rfl rfl rfl rfl Tryd.underlying9) ?_)
    refine wlo 3 4 rfl rfl rfl (wo_run rfl rfl (run_lss rfl rfl rfl) ?_)
    refine wl_end rfl ?_
    refine nm_sub [(0, _), (4, _), (5, _), (22, _)] ⟨rfl, rfl, rfl, rfl, trivial⟩ ?_
    refine nm_thn ?_
    refine ws_condN ReadPoly_n31 ReadPoly_n32 rfl rfl rfl rfl (fun hb22 => ?_) (fun hb22 => ?_)
    ·replace hb22 := of_decide_eq_true hb22
     refine ws_skip rfl ?_
     refine nm_sub [(0, _), (4, _), (5, _)] ⟨rfl, rfl, rfl, trivial⟩ ?_
     refine nm_thn ?_
     refine ws_blockN ReadPoly_n33 1 rfl rfl rfl ?_
     refine ws_seqN ReadPoly_n34 ReadPoly_n35 rfl rfl rfl ?_
     have hs2 : s.length ≤ 2000 := by omega
     refine ws_region rfl ?_
     refine wla 0 1 rfl rfl rfl rfl rfl rfl rfl ?_
     refine wl_end rfl ?_
     refine nm_thn ?_
     refine ws_seqN ReadPoly_n36 ReadPoly_n37 rfl rfl rfl ?_
     refine ws_cut (fun ax_ wx_ => ∃ (sg : Int) (k1 : Nat) (M2 : Hp), M1.le M2 ∧ Env 168 [(0, .string (sB s)), (4, vro), (5, .int .i64 (k1 : Int)), (6, .int .i64 sg)] ax_ ∧ SH wx_ M2 X [Rs.row cdTm vro acc] ∧ sgR s k = some (sg, k1) ∧ (sg = 1 ∨ sg = -1) ∧ (k ≤ k1 ∧ k1 ≤ s.length) ∧ k < s.length) ?_ ?_
     ·refine ws_seqN ReadPoly_n38 ReadPoly_n39 rfl rfl rfl ?_
      refine ws_region rfl ?_
      refine wlm 0 1 rfl rfl rfl rfl rfl rfl rfl ?_
      refine wlo 1 2 rfl rfl rfl (wo_run rfl rfl (run_eql rfl rfl rfl) ?_)
      refine wlm 2 3 rfl rfl rfl rfl rfl rfl rfl ?_
      refine wl_split (t := 25) rfl (fun hg25 => ?_) (fun hg25 => ?_)
      ·replace hg25 := of_decide_eq_true hg25
       refine wl_opG (k := 3) (k' := 4) rfl rfl ⟨_, _, _, rfl, rfl, rfl, rfl⟩ rfl (wo_run rfl rfl (run_move rfl rfl) ?_)
       refine wl_opG (k := 4) (k' := 5) rfl rfl ⟨_, _, _, rfl, rfl, rfl, rfl⟩ rfl (wo_run rfl rfl (run_indexS 0 rfl rfl rfl Tryd.underlying9 ((by first | omega | (simp only [lens]; omega)))) ?_)
       refine wl_opG (k := 5) (k' := 6) rfl rfl ⟨_, _, _, rfl, rfl, rfl, rfl⟩ rfl (wo_run rfl rfl (run_eqlB (p := (ga s 0)) (q := 45) rfl rfl rfl) ?_)
       refine wlo 6 7 rfl rfl rfl (wo_run rfl rfl (run_pickT rfl rfl rfl) ?_)
       refine wl_end rfl ?_
       refine nm_sub [(0, _), (4, _), (5, _), (6, _), (29, _)] ⟨rfl, rfl, rfl, rfl, rfl, trivial⟩ ?_
       refine nm_thn ?_
       refine ws_condN ReadPoly_n40 ReadPoly_n41 rfl rfl rfl rfl (fun hb29 => ?_) (fun hb29 => ?_)
       ·replace hb29 := of_decide_eq_true hb29
        refine ws_seqN ReadPoly_n42 ReadPoly_n43 rfl rfl rfl ?_
        refine ws_region rfl ?_
        refine wla 0 1 rfl rfl rfl rfl rfl rfl rfl ?_
        refine wl_end rfl ?_
        refine nm_sub [(0, _), (4, _), (5, _), (6, _)] ⟨rfl, rfl, rfl, rfl, trivial⟩ ?_
        refine nm_thn ?_
        refine ws_region rfl ?_
        refine wlm 0 1 rfl rfl rfl rfl rfl rfl rfl ?_
        refine wlo 1 2 rfl rfl rfl (wo_run rfl rfl (run_add rfl rfl rfl (by first | omega | (simp only [lens]; omega))) ?_)
        refine wla 2 3 rfl rfl rfl rfl rfl rfl rfl ?_
        refine wl_end rfl ?_
        refine nm_lp ?_
        intro ax_ hax_
        refine ⟨(-1), k + 1, _, (Hp.le_refl _), hax_.sub ⟨rfl, rfl, rfl, rfl, trivial⟩, S2.pick [0] [_] (by decide) ⟨rfl, trivial⟩, ?hq2f0, ?hq2f1, ?hq2f2, ?hq2f3⟩
        case hq2f0 => first | exact sg_a (by omega) (by assumption) | exact sg_b (by omega) (by assumption) | exact sg_c1 (by omega) (by omega) (by first | assumption | exact Classical.not_not.1 (by assumption)) (by assumption) (by first | assumption | exact Classical.not_not.1 (by assumption)) | exact sg_c2 (by omega) (by omega) (by first | assumption | exact Classical.not_not.1 (by assumption)) (by first | assumption | exact Classical.not_not.1 (by assumption)) (by first | assumption | exact Classical.not_not.1 (by assumption)) | (exfalso; omega) | exact absurd ‹¬ga s (k + 1) = 45› ‹¬¬ga s (k + 1) = 45›
        case hq2f1 => omega
        case hq2f2 => omega
        case hq2f3 => omega
       ·replace hb29 := of_decide_eq_false hb29
        refine ws_seqN ReadPoly_n44 ReadPoly_n45 rfl rfl rfl ?_
        refine ws_region rfl ?_
        refine wlm 0 1 rfl rfl rfl rfl rfl rfl rfl ?_
        refine wlo 1 2 rfl rfl rfl (wo_run rfl rfl (run_gtr rfl rfl rfl) ?_)
        refine wl_end rfl ?_
        refine nm_sub [(0, _), (4, _), (5, _), (6, _), (33, _)] ⟨rfl, rfl, rfl, rfl, rfl, trivial⟩ ?_
        refine nm_thn ?_
        refine ws_condN ReadPoly_n46 ReadPoly_n47 rfl rfl rfl rfl (fun hb33 => ?_) (fun hb33 => ?_)
        ·replace hb33 := of_decide_eq_true hb33
         refine ws_seqN ReadPoly_n48 ReadPoly_n49 rfl rfl rfl ?_
         refine ws_seqN ReadPoly_n50 ReadPoly_n51 rfl rfl rfl ?_
         refine ws_region rfl ?_
         refine wlm 0 1 rfl rfl rfl rfl rfl rfl rfl ?_
         refine wlo 1 2 rfl rfl rfl (wo_run rfl rfl (run_add rfl rfl rfl (by first | omega | (simp only [lens]; omega))) ?_)
         refine wlm 2 3 rfl rfl rfl rfl rfl rfl rfl ?_
         refine wlo 3 4 rfl rfl rfl (wo_run rfl rfl (run_lenS rfl rfl rfl rfl rfl rfl Tryd.underlying9) ?_)
         refine wlo 4 5 rfl rfl rfl (wo_run rfl rfl (run_gtr rfl rfl rfl) ?_)
         refine wlm 5 6 rfl rfl rfl rfl rfl rfl rfl ?_
         refine wl_split (t := 39) rfl (fun hg39 => ?_) (fun hg39 => ?_)
         ·replace hg39 := of_decide_eq_true hg39
          refine wl_no (k := 6) (k' := 7) (d := 40) rfl rfl ⟨_, _, _, rfl, rfl, rfl, rfl⟩ rfl rfl ?_
          refine wl_no (k := 7) (k' := 8) (d := 41) rfl rfl ⟨_, _, _, rfl, rfl, rfl, rfl⟩ rfl rfl ?_
          refine wl_no (k := 8) (k' := 9) (d := 42) rfl rfl ⟨_, _, _, rfl, rfl, rfl, rfl⟩ rfl rfl ?_
          refine wl_no (k := 9) (k' := 10) (d := 43) rfl rfl ⟨_, _, _, rfl, rfl, rfl, rfl⟩ rfl rfl ?_
          refine wlo 10 11 rfl rfl rfl (wo_run rfl rfl (run_pickT rfl rfl rfl) ?_)
          refine wlm 11 12 rfl rfl rfl rfl rfl rfl rfl ?_
          refine wl_no (k := 12) (k' := 13) (d := 46) rfl rfl ⟨_, _, _, rfl, rfl, rfl, rfl⟩ rfl rfl ?_
          refine wl_no (k := 13) (k' := 14) (d := 47) rfl rfl ⟨_, _, _, rfl, rfl, rfl, rfl⟩ rfl rfl ?_
          refine wl_no (k := 14) (k' := 15) (d := 48) rfl rfl ⟨_, _, _, rfl, rfl, rfl, rfl⟩ rfl rfl ?_
          refine wl_no (k := 15) (k' := 16) (d := 49) rfl rfl ⟨_, _, _, rfl, rfl, rfl, rfl⟩ rfl rfl ?_
          refine wl_no (k := 16) (k' := 17) (d := 50) rfl rfl ⟨_, _, _, rfl, rfl, rfl, rfl⟩ rfl rfl ?_
          refine wl_no (k := 17) (k' := 18) (d := 51) rfl rfl ⟨_, _, _, rfl, rfl, rfl, rfl⟩ rfl rfl ?_
          refine wl_no (k := 18) (k' := 19) (d := 52) rfl rfl ⟨_, _, _, rfl, rfl, rfl, rfl⟩ rfl rfl ?_
          refine wl_no (k := 19) (k' := 20) (d := 53) rfl rfl ⟨_, _, _, rfl, rfl, rfl, rfl⟩ rfl rfl ?_
          refine wl_no (k := 20) (k' := 21) (d := 54) rfl rfl ⟨_, _, _, rfl, rfl, rfl, rfl⟩ rfl rfl ?_
          refine wl_no (k := 21) (k' := 22) (d := 55) rfl rfl ⟨_, _, _, rfl, rfl, rfl, rfl⟩ rfl rfl ?_
          refine wl_no (k := 22) (k' := 23) (d := 56) rfl rfl ⟨_, _, _, rfl, rfl, rfl, rfl⟩ rfl rfl ?_
          refine wl_no (k := 23) (k' := 24) (d := 57) rfl rfl ⟨_, _, _, rfl, rfl, rfl, rfl⟩ rfl rfl ?_
          refine wlo 24 25 rfl rfl rfl (wo_run rfl rfl (run_pickT rfl rfl rfl) ?_)
          refine wlm 25 26 rfl rfl rfl rfl rfl rfl rfl ?_
          refine wl_no (k := 26) (k' := 27) (d := 60) rfl rfl ⟨_, _, _, rfl, rfl, rfl, rfl⟩ rfl rfl ?_
          refine wl_no (k := 27) (k' := 28) (d := 61) rfl rfl ⟨_, _, _, rfl, rfl, rfl, rfl⟩ rfl rfl ?_
          refine wl_no (k := 28) (k' := 29) (d := 62) rfl rfl ⟨_, _, _, rfl, rfl, rfl, rfl⟩ rfl rfl ?_
          refine wl_no (k := 29) (k' := 30) (d := 63) rfl rfl ⟨_, _, _, rfl, rfl, rfl, rfl⟩ rfl rfl ?_
          refine wl_no (k := 30) (k' := 31) (d := 64) rfl rfl ⟨_, _, _, rfl, rfl, rfl, rfl⟩ rfl rfl ?_
          refine wlo 31 32 rfl rfl rfl (wo_run rfl rfl (run_pickT rfl rfl rfl) ?_)
          refine wl_end rfl ?_
          refine nm_sub [(0, _), (4, _), (5, _), (6, _), (65, _)] ⟨rfl, rfl, rfl, rfl, rfl, trivial⟩ ?_
          refine nm_thn ?_
          refine ws_condTN ReadPoly_n52 rfl rfl rfl ?_
          refine ws_seqN ReadPoly_n54 ReadPoly_n55 rfl rfl rfl ?_
          refine ws_region rfl ?_
          refine wla 0 1 rfl rfl rfl rfl rfl rfl rfl ?_
          refine wla 1 2 rfl rfl rfl rfl rfl rfl rfl ?_
          refine wl_end rfl ?_
          refine nm_sub [(2, _), (3, _)] ⟨rfl, rfl, trivial⟩ ?_
          refine nm_thn ?_
          refine ws_ret hC [_, _] rfl rfl ⟨rfl, rfl, trivial⟩ ?_
          refine ⟨_, rfl, _, hle1, (S2.pick [] [] (by decide) trivial), ?_⟩
          refine TE.of (p := ([], 1)) ⟨_, _, rfl, RdA.nil_⟩ ?_
          unfold pieceR
          rw [if_neg (by omega), if_neg (by assumption)]
          have hrr : runR s s.length 0 [] = none := by rw [← hrn]; exact runR_no (by omega) hf (step_no (sg_n (by omega) (by first | exact .inl (by omega) | exact .inr (.inl (by assumption)) | exact .inr (.inr (.inl ⟨by assumption, by assumption⟩)) | exact .inr (.inr (.inr (by assumption))))))
          unfold refR
          rw [hrr]
         ·replace hg39 := of_decide_eq_false hg39
          refine wl_opG (k := 6) (k' := 7) rfl rfl ⟨_, _, _, rfl, rfl, rfl, rfl⟩ rfl (wo_run rfl rfl (run_move rfl rfl) ?_)
          refine wl_opG (k := 7) (k' := 8) rfl rfl ⟨_, _, _, rfl, rfl, rfl, rfl⟩ rfl (wo_run rfl rfl (run_move rfl rfl) ?_)
          refine wl_opG (k := 8) (k' := 9) rfl rfl ⟨_, _, _, rfl, rfl, rfl, rfl⟩ rfl (wo_run rfl rfl (run_indexS k rfl rfl rfl Tryd.underlying9 ((by first | omega | (simp only [lens]; omega)))) ?_)
          refine wl_opG (k := 9) (k' := 10) rfl rfl ⟨_, _, _, rfl, rfl, rfl, rfl⟩ rfl (wo_run rfl rfl (run_neqB (p := (ga s k)) (q := 32) rfl rfl rfl) ?_)
          refine wlo 10 11 rfl rfl rfl (wo_run rfl rfl (run_pickF rfl rfl rfl) ?_)
          refine wlm 11 12 rfl rfl rfl rfl rfl rfl rfl ?_
          refine wl_split (t := 45) rfl (fun hg45 => ?_) (fun hg45 => ?_)
          ·replace hg45 := of_decide_eq_true hg45
           refine wl_no (k := 12) (k' := 13) (d := 46) rfl rfl ⟨_, _, _, rfl, rfl, rfl, rfl⟩ rfl rfl ?_
           refine wl_no (k := 13) (k' := 14) (d := 47) rfl rfl ⟨_, _, _, rfl, rfl, rfl, rfl⟩ rfl rfl ?_
           refine wl_no (k := 14) (k' := 15) (d := 48) rfl rfl ⟨_, _, _, rfl, rfl, rfl, rfl⟩ rfl rfl ?_
           refine wl_no (k := 15) (k' := 16) (d := 49) rfl rfl ⟨_, _, _, rfl, rfl, rfl, rfl⟩ rfl rfl ?_
           refine wl_no (k := 16) (k' := 17) (d := 50) rfl rfl ⟨_, _, _, rfl, rfl, rfl, rfl⟩ rfl rfl ?_
           refine wl_no (k := 17) (k' := 18) (d := 51) rfl rfl ⟨_, _, _, rfl, rfl, rfl, rfl⟩ rfl rfl ?_
           refine wl_no (k := 18) (k' := 19) (d := 52) rfl rfl ⟨_, _, _, rfl, rfl, rfl, rfl⟩ rfl rfl ?_
           refine wl_no (k := 19) (k' := 20) (d := 53) rfl rfl ⟨_, _, _, rfl, rfl, rfl, rfl⟩ rfl rfl ?_
           refine wl_no (k := 20) (k' := 21) (d := 54) rfl rfl ⟨_, _, _, rfl, rfl, rfl, rfl⟩ rfl rfl ?_
           refine wl_no (k := 21) (k' := 22) (d := 55) rfl rfl ⟨_, _, _, rfl, rfl, rfl, rfl⟩ rfl rfl ?_
           refine wl_no (k := 22) (k' := 23) (d := 56) rfl rfl ⟨_, _, _, rfl, rfl, rfl, rfl⟩ rfl rfl ?_
           refine wl_no (k := 23) (k' := 24) (d := 57) rfl rfl ⟨_, _, _, rfl, rfl, rfl, rfl⟩ rfl rfl ?_
           refine wlo 24 25 rfl rfl rfl (wo_run rfl rfl (run_pickT rfl rfl rfl) ?_)
           refine wlm 25 26 rfl rfl rfl rfl rfl rfl rfl ?_
           refine wl_no (k := 26) (k' := 27) (d := 60) rfl rfl ⟨_, _, _, rfl, rfl, rfl, rfl⟩ rfl rfl ?_
           refine wl_no (k := 27) (k' := 28) (d := 61) rfl rfl ⟨_, _, _, rfl, rfl, rfl, rfl⟩ rfl rfl ?_
           refine wl_no (k := 28) (k' := 29) (d := 62) rfl rfl ⟨_, _, _, rfl, rfl, rfl, rfl⟩ rfl rfl ?_
           refine wl_no (k := 29) (k' := 30) (d := 63) rfl rfl ⟨_, _, _, rfl, rfl, rfl, rfl⟩ rfl rfl ?_
           refine wl_no (k := 30) (k' := 31) (d := 64) rfl rfl ⟨_, _, _, rfl, rfl, rfl, rfl⟩ rfl rfl ?_
           refine wlo 31 32 rfl rfl rfl (wo_run rfl rfl (run_pickT rfl rfl rfl) ?_)
           refine wl_end rfl ?_
           refine nm_sub [(0, _), (4, _), (5, _), (6, _), (65, _)] ⟨rfl, rfl, rfl, rfl, rfl, trivial⟩ ?_
           refine nm_thn ?_
           refine ws_condTN ReadPoly_n52 rfl rfl rfl ?_
           refine ws_seqN ReadPoly_n54 ReadPoly_n55 rfl rfl rfl ?_
           refine ws_region rfl ?_
           refine wla 0 1 rfl rfl rfl rfl rfl rfl rfl ?_
           refine wla 1 2 rfl rfl rfl rfl rfl rfl rfl ?_
           refine wl_end rfl ?_
           refine nm_sub [(2, _), (3, _)] ⟨rfl, rfl, trivial⟩ ?_
           refine nm_thn ?_
           refine ws_ret hC [_, _] rfl rfl ⟨rfl, rfl, trivial⟩ ?_
           refine ⟨_, rfl, _, hle1, (S2.pick [] [] (by decide) trivial), ?_⟩
           refine TE.of (p := ([], 1)) ⟨_, _, rfl, RdA.nil_⟩ ?_
           unfold pieceR
           rw [if_neg (by omega), if_neg (by assumption)]
           have hrr : runR s s.length 0 [] = none := by rw [← hrn]; exact runR_no (by omega) hf (step_no (sg_n (by omega) (by first | exact .inl (by omega) | exact .inr (.inl (by assumption)) | exact .inr (.inr (.inl ⟨by assumption, by assumption⟩)) | exact .inr (.inr (.inr (by assumption))))))
           unfold refR
           rw [hrr]
          ·replace hg45 := of_decide_eq_false hg45
           refine wl_opG (k := 12) (k' := 13) rfl rfl ⟨_, _, _, rfl, rfl, rfl, rfl⟩ rfl (wo_run rfl rfl (run_move rfl rfl) ?_)
           refine wl_opG (k := 13) (k' := 14) rfl rfl ⟨_, _, _, rfl, rfl, rfl, rfl⟩ rfl (wo_run rfl rfl (run_move rfl rfl) ?_)
           refine wl_opG (k := 14) (k' := 15) rfl rfl ⟨_, _, _, rfl, rfl, rfl, rfl⟩ rfl (wo_run rfl rfl (run_add rfl rfl rfl (by first | omega | (simp only [lens]; omega))) ?_)
           refine wl_opG (k := 15) (k' := 16) rfl rfl ⟨_, _, _, rfl, rfl, rfl, rfl⟩ rfl (wo_run rfl rfl (run_indexS (k + 1) rfl rfl rfl Tryd.underlying9 ((by first | omega | (simp only [lens]; omega)))) ?_)
           refine wl_opG (k := 16) (k' := 17) rfl rfl ⟨_, _, _, rfl, rfl, rfl, rfl⟩ rfl (wo_run rfl rfl (run_neqB (p := (ga s (k + 1))) (q := 43) rfl rfl rfl) ?_)
           refine wl_opG (k := 17) (k' := 18) rfl rfl ⟨_, _, _, rfl, rfl, rfl, rfl⟩ rfl (wo_run rfl rfl (run_move rfl rfl) ?_)
           refine wl_split (t := 51) rfl (fun hg51 => ?_) (fun hg51 => ?_)
           ·replace hg51 := of_decide_eq_true hg51
            refine wl_opG (k := 18) (k' := 19) rfl rfl ⟨_, _, _, rfl, rfl, rfl, rfl⟩ rfl (wo_run rfl rfl (run_move rfl rfl) ?_)
            refine wl_opG (k := 19) (k' := 20) rfl rfl ⟨_, _, _, rfl, rfl, rfl, rfl⟩ rfl (wo_run rfl rfl (run_move rfl rfl) ?_)
            refine wl_opG (k := 20) (k' := 21) rfl rfl ⟨_, _, _, rfl, rfl, rfl, rfl⟩ rfl (wo_run rfl rfl (run_add rfl rfl rfl (by first | omega | (simp only [lens]; omega))) ?_)
            refine wl_opG (k := 21) (k' := 22) rfl rfl ⟨_, _, _, rfl, rfl, rfl, rfl⟩ rfl (wo_run rfl rfl (run_indexS (k + 1) rfl rfl rfl Tryd.underlying9 ((by first | omega | (simp only [lens]; omega)))) ?_)
            refine wl_opG (k := 22) (k' := 23) rfl rfl ⟨_, _, _, rfl, rfl, rfl, rfl⟩ rfl (wo_run rfl rfl (run_neqB (p := (ga s (k + 1))) (q := 45) rfl rfl rfl) ?_)
            refine wl_opG (k := 23) (k' := 24) rfl rfl ⟨_, _, _, rfl, rfl, rfl, rfl⟩ rfl (wo_run rfl rfl (run_pickT rfl rfl rfl) ?_)
            refine wlo 24 25 rfl rfl rfl (wo_run rfl rfl (run_pickF rfl rfl rfl) ?_)
            refine wlm 25 26 rfl rfl rfl rfl rfl rfl rfl ?_
            refine wl_split (t := 59) rfl (fun hg59 => ?_) (fun hg59 => ?_)
            ·replace hg59 := of_decide_eq_true hg59
             refine wl_no (k := 26) (k' := 27) (d := 60) rfl rfl ⟨_, _, _, rfl, rfl, rfl, rfl⟩ rfl rfl ?_
             refine wl_no (k := 27) (k' := 28) (d := 61) rfl rfl ⟨_, _, _, rfl, rfl, rfl, rfl⟩ rfl rfl ?_
             refine wl_no (k := 28) (k' := 29) (d := 62) rfl rfl ⟨_, _, _, rfl, rfl, rfl, rfl⟩ rfl rfl ?_
             refine wl_no (k := 29) (k' := 30) (d := 63) rfl rfl ⟨_, _, _, rfl, rfl, rfl, rfl⟩ rfl rfl ?_
             refine wl_no (k := 30) (k' := 31) (d := 64) rfl rfl ⟨_, _, _, rfl, rfl, rfl, rfl⟩ rfl rfl ?_
             refine wlo 31 32 rfl rfl rfl (wo_run rfl rfl (run_pickT rfl rfl rfl) ?_)
             refine wl_end rfl ?_
             refine nm_sub [(0, _), (4, _), (5, _), (6, _), (65, _)] ⟨rfl, rfl, rfl, rfl, rfl, trivial⟩ ?_
             refine nm_thn ?_
             refine ws_condTN ReadPoly_n52 rfl rfl rfl ?_
             refine ws_seqN ReadPoly_n54 ReadPoly_n55 rfl rfl rfl ?_
             refine ws_region rfl ?_
             refine wla 0 1 rfl rfl rfl rfl rfl rfl rfl ?_
             refine wla 1 2 rfl rfl rfl rfl rfl rfl rfl ?_
             refine wl_end rfl ?_
             refine nm_sub [(2, _), (3, _)] ⟨rfl, rfl, trivial⟩ ?_
             refine nm_thn ?_
             refine ws_ret hC [_, _] rfl rfl ⟨rfl, rfl, trivial⟩ ?_
             refine ⟨_, rfl, _, hle1, (S2.pick [] [] (by decide) trivial), ?_⟩
             refine TE.of (p := ([], 1)) ⟨_, _, rfl, RdA.nil_⟩ ?_
             unfold pieceR
             rw [if_neg (by omega), if_neg (by assumption)]
             have hrr : runR s s.length 0 [] = none := by rw [← hrn]; exact runR_no (by omega) hf (step_no (sg_n (by omega) (by first | exact .inl (by omega) | exact .inr (.inl (by assumption)) | exact .inr (.inr (.inl ⟨by assumption, by assumption⟩)) | exact .inr (.inr (.inr (by assumption))))))
             unfold refR
             rw [hrr]
            ·replace hg59 := of_decide_eq_false hg59
             refine wl_opG (k := 26) (k' := 27) rfl rfl ⟨_, _, _, rfl, rfl, rfl, rfl⟩ rfl (wo_run rfl rfl (run_move rfl rfl) ?_)
             refine wl_opG (k := 27) (k' := 28) rfl rfl ⟨_, _, _, rfl, rfl, rfl, rfl⟩ rfl (wo_run rfl rfl (run_move rfl rfl) ?_)
             refine wl_opG (k := 28) (k' := 29) rfl rfl ⟨_, _, _, rfl, rfl, rfl, rfl⟩ rfl (wo_run rfl rfl (run_add rfl rfl rfl (by first | omega | (simp only [lens]; omega))) ?_)
             refine wl_opG (k := 29) (k' := 30) rfl rfl ⟨_, _, _, rfl, rfl, rfl, rfl⟩ rfl (wo_run rfl rfl (run_indexS (k + 2) rfl rfl rfl Tryd.underlying9 ((by first | omega | (simp only [lens]; omega)))) ?_)
             refine wl_opG (k := 30) (k' := 31) rfl rfl ⟨_, _, _, rfl, rfl, rfl, rfl⟩ rfl (wo_run rfl rfl (run_neqB (p := (ga s (k + 2))) (q := 32) rfl rfl rfl) ?_)
             refine wlo 31 32 rfl rfl rfl (wo_run rfl rfl (run_pickF rfl rfl rfl) ?_)
             refine wl_end rfl ?_
             refine nm_sub [(0, _), (4, _), (5, _), (6, _), (65, _)] ⟨rfl, rfl, rfl, rfl, rfl, trivial⟩ ?_
             refine nm_thn ?_
             refine ws_condN ReadPoly_n52 ReadPoly_n53 rfl rfl rfl rfl (fun hb65 => ?_) (fun hb65 => ?_)
             ·replace hb65 := of_decide_eq_true hb65
              refine ws_seqN ReadPoly_n54 ReadPoly_n55 rfl rfl rfl ?_
              refine ws_region rfl ?_
              refine wla 0 1 rfl rfl rfl rfl rfl rfl rfl ?_
              refine wla 1 2 rfl rfl rfl rfl rfl rfl rfl ?_
              refine wl_end rfl ?_
              refine nm_sub [(2, _), (3, _)] ⟨rfl, rfl, trivial⟩ ?_
              refine nm_thn ?_
              refine ws_ret hC [_, _] rfl rfl ⟨rfl, rfl, trivial⟩ ?_
              refine ⟨_, rfl, _, hle1, (S2.pick [] [] (by decide) trivial), ?_⟩
              refine TE.of (p := ([], 1)) ⟨_, _, rfl, RdA.nil_⟩ ?_
              unfold pieceR
              rw [if_neg (by omega), if_neg (by assumption)]
              have hrr : runR s s.length 0 [] = none := by rw [← hrn]; exact runR_no (by omega) hf (step_no (sg_n (by omega) (by first | exact .inl (by omega) | exact .inr (.inl (by assumption)) | exact .inr (.inr (.inl ⟨by assumption, by assumption⟩)) | exact .inr (.inr (.inr (by assumption))))))
              unfold refR
              rw [hrr]
             ·replace hb65 := of_decide_eq_false hb65
              refine ws_skip rfl ?_
              refine nm_sub [(0, _), (4, _), (5, _), (6, _)] ⟨rfl, rfl, rfl, rfl, trivial⟩ ?_
              refine nm_thn ?_
              refine ws_seqN ReadPoly_n56 ReadPoly_n57 rfl rfl rfl ?_
              refine ws_seqN ReadPoly_n58 ReadPoly_n59 rfl rfl rfl ?_
              refine ws_region rfl ?_
              refine wlm 0 1 rfl rfl rfl rfl rfl rfl rfl ?_
              refine wlm 1 2 rfl rfl rfl rfl rfl rfl rfl ?_
              refine wlo 2 3 rfl rfl rfl (wo_run rfl rfl (run_add rfl rfl rfl (by first | omega | (simp only [lens]; omega))) ?_)
              refine wlo 3 4 rfl rfl rfl (wo_run rfl rfl (run_indexS (k + 1) rfl rfl rfl Tryd.underlying9 ((by first | omega | (simp only [lens]; omega)))) ?_)
              refine wlo 4 5 rfl rfl rfl (wo_run rfl rfl (run_eqlB (p := (ga s (k + 1))) (q := 45) rfl rfl rfl) ?_)
              refine wl_end rfl ?_
              refine nm_sub [(0, _), (4, _), (5, _), (6, _), (70, _)] ⟨rfl, rfl, rfl, rfl, rfl, trivial⟩ ?_
              refine nm_thn ?_
              refine ws_condN ReadPoly_n60 ReadPoly_n61 rfl rfl rfl rfl (fun hb70 => ?_) (fun hb70 => ?_)
              ·replace hb70 := of_decide_eq_true hb70
               refine ws_region rfl ?_
               refine wla 0 1 rfl rfl rfl rfl rfl rfl rfl ?_
               refine wl_end rfl ?_
               refine nm_sub [(0, _), (4, _), (5, _), (6, _)] ⟨rfl, rfl, rfl, rfl, trivial⟩ ?_
               refine nm_thn ?_
               refine ws_region rfl ?_
               refine wlm 0 1 rfl rfl rfl rfl rfl rfl rfl ?_
               refine wlo 1 2 rfl rfl rfl (wo_run rfl rfl (run_add rfl rfl rfl (by first | omega | (simp only [lens]; omega))) ?_)
               refine wla 2 3 rfl rfl rfl rfl rfl rfl rfl ?_
               refine wl_end rfl ?_
               refine nm_lp ?_
               intro ax_ hax_
               refine ⟨(-1), k + 3, _, (Hp.le_refl _), hax_.sub ⟨rfl, rfl, rfl, rfl, trivial⟩, S2.pick [0] [_] (by decide) ⟨rfl, trivial⟩, ?hq3f0, ?hq3f1, ?hq3f2, ?hq3f3⟩
               case hq3f0 => first | exact sg_a (by omega) (by assumption) | exact sg_b (by omega) (by assumption) | exact sg_c1 (by omega) (by omega) (by first | assumption | exact Classical.not_not.1 (by assumption)) (by assumption) (by first | assumption | exact Classical.not_not.1 (by assumption)) | exact sg_c2 (by omega) (by omega) (by first | assumption | exact Classical.not_not.1 (by assumption)) (by first | assumption | exact Classical.not_not.1 (by assumption)) (by first | assumption | exact Classical.not_not.1 (by assumption)) | (exfalso; omega) | exact absurd ‹¬ga s (k + 1) = 45› ‹¬¬ga s (k + 1) = 45›
               case hq3f1 => omega
               case hq3f2 => omega
               case hq3f3 => omega
              ·replace hb70 := of_decide_eq_false hb70
               refine ws_skip rfl ?_
               refine nm_sub [(0, _), (4, _), (5, _), (6, _)] ⟨rfl, rfl, rfl, rfl, trivial⟩ ?_
               refine nm_thn ?_
               refine ws_region rfl ?_
               refine wlm 0 1 rfl rfl rfl rfl rfl rfl rfl ?_
               refine wlo 1 2 rfl rfl rfl (wo_run rfl rfl (run_add rfl rfl rfl (by first | omega | (simp only [lens]; omega))) ?_)
               refine wla 2 3 rfl rfl rfl rfl rfl rfl rfl ?_
               refine wl_end rfl ?_
               refine nm_lp ?_
               intro ax_ hax_
               refine ⟨1, k + 3, _, (Hp.le_refl _), hax_.sub ⟨rfl, rfl, rfl, rfl, trivial⟩, S2.pick [0] [_] (by decide) ⟨rfl, trivial⟩, ?hq4f0, ?hq4f1, ?hq4f2, ?hq4f3⟩
               case hq4f0 => first | exact sg_a (by omega) (by assumption) | exact sg_b (by omega) (by assumption) | exact sg_c1 (by omega) (by omega) (by first | assumption | exact Classical.not_not.1 (by assumption)) (by assumption) (by first | assumption | exact Classical.not_not.1 (by assumption)) | exact sg_c2 (by omega) (by omega) (by first | assumption | exact Classical.not_not.1 (by assumption)) (by first | assumption | exact Classical.not_not.1 (by assumption)) (by first | assumption | exact Classical.not_not.1 (by assumption)) | (exfalso; omega) | exact absurd ‹¬ga s (k + 1) = 45› ‹¬¬ga s (k + 1) = 45›
               case hq4f1 => omega
               case hq4f2 => omega
               case hq4f3 => omega
           ·replace hg51 := of_decide_eq_false hg51
            refine wl_no (k := 18) (k' := 19) (d := 52) rfl rfl ⟨_, _, _, rfl, rfl, rfl, rfl⟩ rfl rfl ?_
            refine wl_no (k := 19) (k' := 20) (d := 53) rfl rfl ⟨_, _, _, rfl, rfl, rfl, rfl⟩ rfl rfl ?_
            refine wl_no (k := 20) (k' := 21) (d := 54) rfl rfl ⟨_, _, _, rfl, rfl, rfl, rfl⟩ rfl rfl ?_
            refine wl_no (k := 21) (k' := 22) (d := 55) rfl rfl ⟨_, _, _, rfl, rfl, rfl, rfl⟩ rfl rfl ?_
            refine wl_no (k := 22) (k' := 23) (d := 56) rfl rfl ⟨_, _, _, rfl, rfl, rfl, rfl⟩ rfl rfl ?_
            refine wl_opG (k := 23) (k' := 24) rfl rfl ⟨_, _, _, rfl, rfl, rfl, rfl⟩ rfl (wo_run rfl rfl (run_pickF rfl rfl rfl) ?_)
            refine wlo 24 25 rfl rfl rfl (wo_run rfl rfl (run_pickF rfl rfl rfl) ?_)
            refine wlm 25 26 rfl rfl rfl rfl rfl rfl rfl ?_
            refine wl_opG (k := 26) (k' := 27) rfl rfl ⟨_, _, _, rfl, rfl, rfl, rfl⟩ rfl (wo_run rfl rfl (run_move rfl rfl) ?_)
            refine wl_opG (k := 27) (k' := 28) rfl rfl ⟨_, _, _, rfl, rfl, rfl, rfl⟩ rfl (wo_run rfl rfl (run_move rfl rfl) ?_)
            refine wl_opG (k := 28) (k' := 29) rfl rfl ⟨_, _, _, rfl, rfl, rfl, rfl⟩ rfl (wo_run rfl rfl (run_add rfl rfl rfl (by first | omega | (simp only [lens]; omega))) ?_)
            refine wl_opG (k := 29) (k' := 30) rfl rfl ⟨_, _, _, rfl, rfl, rfl, rfl⟩ rfl (wo_run rfl rfl (run_indexS (k + 2) rfl rfl rfl Tryd.underlying9 ((by first | omega | (simp only [lens]; omega)))) ?_)
            refine wl_opG (k := 30) (k' := 31) rfl rfl ⟨_, _, _, rfl, rfl, rfl, rfl⟩ rfl (wo_run rfl rfl (run_neqB (p := (ga s (k + 2))) (q := 32) rfl rfl rfl) ?_)
            refine wlo 31 32 rfl rfl rfl (wo_run rfl rfl (run_pickF rfl rfl rfl) ?_)
            refine wl_end rfl ?_
            refine nm_sub [(0, _), (4, _), (5, _), (6, _), (65, _)] ⟨rfl, rfl, rfl, rfl, rfl, trivial⟩ ?_
            refine nm_thn ?_
            refine ws_condN ReadPoly_n52 ReadPoly_n53 rfl rfl rfl rfl (fun hb65 => ?_) (fun hb65 => ?_)
            ·replace hb65 := of_decide_eq_true hb65
             refine ws_seqN ReadPoly_n54 ReadPoly_n55 rfl rfl rfl ?_
             refine ws_region rfl ?_
             refine wla 0 1 rfl rfl rfl rfl rfl rfl rfl ?_
             refine wla 1 2 rfl rfl rfl rfl rfl rfl rfl ?_
             refine wl_end rfl ?_
             refine nm_sub [(2, _), (3, _)] ⟨rfl, rfl, trivial⟩ ?_
             refine nm_thn ?_
             refine ws_ret hC [_, _] rfl rfl ⟨rfl, rfl, trivial⟩ ?_
             refine ⟨_, rfl, _, hle1, (S2.pick [] [] (by decide) trivial), ?_⟩
             refine TE.of (p := ([], 1)) ⟨_, _, rfl, RdA.nil_⟩ ?_
             unfold pieceR
             rw [if_neg (by omega), if_neg (by assumption)]
             have hrr : runR s s.length 0 [] = none := by rw [← hrn]; exact runR_no (by omega) hf (step_no (sg_n (by omega) (by first | exact .inl (by omega) | exact .inr (.inl (by assumption)) | exact .inr (.inr (.inl ⟨by assumption, by assumption⟩)) | exact .inr (.inr (.inr (by assumption))))))
             unfold refR
             rw [hrr]
            ·replace hb65 := of_decide_eq_false hb65
             refine ws_skip rfl ?_
             refine nm_sub [(0, _), (4, _), (5, _), (6, _)] ⟨rfl, rfl, rfl, rfl, trivial⟩ ?_
             refine nm_thn ?_
             refine ws_seqN ReadPoly_n56 ReadPoly_n57 rfl rfl rfl ?_
             refine ws_seqN ReadPoly_n58 ReadPoly_n59 rfl rfl rfl ?_
             refine ws_region rfl ?_
             refine wlm 0 1 rfl rfl rfl rfl rfl rfl rfl ?_
             refine wlm 1 2 rfl rfl rfl rfl rfl rfl rfl ?_
             refine wlo 2 3 rfl rfl rfl (wo_run rfl rfl (run_add rfl rfl rfl (by first | omega | (simp only [lens]; omega))) ?_)
             refine wlo 3 4 rfl rfl rfl (wo_run rfl rfl (run_indexS (k + 1) rfl rfl rfl Tryd.underlying9 ((by first | omega | (simp only [lens]; omega)))) ?_)
             refine wlo 4 5 rfl rfl rfl (wo_run rfl rfl (run_eqlB (p := (ga s (k + 1))) (q := 45) rfl rfl rfl) ?_)
             refine wl_end rfl ?_
             refine nm_sub [(0, _), (4, _), (5, _), (6, _), (70, _)] ⟨rfl, rfl, rfl, rfl, rfl, trivial⟩ ?_
             refine nm_thn ?_
             refine ws_condN ReadPoly_n60 ReadPoly_n61 rfl rfl rfl rfl (fun hb70 => ?_) (fun hb70 => ?_)
             ·replace hb70 := of_decide_eq_true hb70
              refine ws_region rfl ?_
              refine wla 0 1 rfl rfl rfl rfl rfl rfl rfl ?_
              refine wl_end rfl ?_
              refine nm_sub [(0, _), (4, _), (5, _), (6, _)] ⟨rfl, rfl, rfl, rfl, trivial⟩ ?_
              refine nm_thn ?_
              refine ws_region rfl ?_
              refine wlm 0 1 rfl rfl rfl rfl rfl rfl rfl ?_
              refine wlo 1 2 rfl rfl rfl (wo_run rfl rfl (run_add rfl rfl rfl (by first | omega | (simp only [lens]; omega))) ?_)
              refine wla 2 3 rfl rfl rfl rfl rfl rfl rfl ?_
              refine wl_end rfl ?_
              refine nm_lp ?_
              intro ax_ hax_
              refine ⟨(-1), k + 3, _, (Hp.le_refl _), hax_.sub ⟨rfl, rfl, rfl, rfl, trivial⟩, S2.pick [0] [_] (by decide) ⟨rfl, trivial⟩, ?hq5f0, ?hq5f1, ?hq5f2, ?hq5f3⟩
              case hq5f0 => first | exact sg_a (by omega) (by assumption) | exact sg_b (by omega) (by assumption) | exact sg_c1 (by omega) (by omega) (by first | assumption | exact Classical.not_not.1 (by assumption)) (by assumption) (by first | assumption | exact Classical.not_not.1 (by assumption)) | exact sg_c2 (by omega) (by omega) (by first | assumption | exact Classical.not_not.1 (by assumption)) (by first | assumption | exact Classical.not_not.1 (by assumption)) (by first | assumption | exact Classical.not_not.1 (by assumption)) | (exfalso; omega) | exact absurd ‹¬ga s (k + 1) = 45› ‹¬¬ga s (k + 1) = 45›
              case hq5f1 => omega
              case hq5f2 => omega
              case hq5f3 => omega
             ·replace hb70 := of_decide_eq_false hb70
              refine ws_skip rfl ?_
              refine nm_sub [(0, _), (4, _), (5, _), (6, _)] ⟨rfl, rfl, rfl, rfl, trivial⟩ ?_
              refine nm_thn ?_
              refine ws_region rfl ?_
              refine wlm 0 1 rfl rfl rfl rfl rfl rfl rfl ?_
              refine wlo 1 2 rfl rfl rfl (wo_run rfl rfl (run_add rfl rfl rfl (by first | omega | (simp only [lens]; omega))) ?_)
              refine wla 2 3 rfl rfl rfl rfl rfl rfl rfl ?_
              refine wl_end rfl ?_
              refine nm_lp ?_
              intro ax_ hax_
              refine ⟨1, k + 3, _, (Hp.le_refl _), hax_.sub ⟨rfl, rfl, rfl, rfl, trivial⟩, S2.pick [0] [_] (by decide) ⟨rfl, trivial⟩, ?hq6f0, ?hq6f1, ?hq6f2, ?hq6f3⟩
              case hq6f0 => first | exact sg_a (by omega) (by assumption) | exact sg_b (by omega) (by assumption) | exact sg_c1 (by omega) (by omega) (by first | assumption | exact Classical.not_not.1 (by assumption)) (by assumption) (by first | assumption | exact Classical.not_not.1 (by assumption)) | exact sg_c2 (by omega) (by omega) (by first | assumption | exact Classical.not_not.1 (by assumption)) (by first | assumption | exact Classical.not_not.1 (by assumption)) (by first | assumption | exact Classical.not_not.1 (by assumption)) | (exfalso; omega) | exact absurd ‹¬ga s (k + 1) = 45› ‹¬¬ga s (k + 1) = 45›
              case hq6f1 => omega
              case hq6f2 => omega
              case hq6f3 => omega
        ·replace hb33 := of_decide_eq_false hb33
         refine ws_skip rfl ?_
         refine nm_lp ?_
         intro ax_ hax_
         refine ⟨1, k, _, (Hp.le_refl _), hax_.sub ⟨rfl, rfl, rfl, rfl, trivial⟩, S2.pick [0] [_] (by decide) ⟨rfl, trivial⟩, ?hq7f0, ?hq7f1, ?hq7f2, ?hq7f3⟩
         case hq7f0 => first | exact sg_a (by omega) (by assumption) | exact sg_b (by omega) (by assumption) | exact sg_c1 (by omega) (by omega) (by first | assumption | exact Classical.not_not.1 (by assumption)) (by assumption) (by first | assumption | exact Classical.not_not.1 (by assumption)) | exact sg_c2 (by omega) (by omega) (by first | assumption | exact Classical.not_not.1 (by assumption)) (by first | assumption | exact Classical.not_not.1 (by assumption)) (by first | assumption | exact Classical.not_not.1 (by assumption)) | (exfalso; omega) | exact absurd ‹¬ga s (k + 1) = 45› ‹¬¬ga s (k + 1) = 45›
         case hq7f1 => omega
         case hq7f2 => omega
         case hq7f3 => omega
      ·replace hg25 := of_decide_eq_false hg25
       refine wl_no (k := 3) (k' := 4) (d := 26) rfl rfl ⟨_, _, _, rfl, rfl, rfl, rfl⟩ rfl rfl ?_
       refine wl_no (k := 4) (k' := 5) (d := 27) rfl rfl ⟨_, _, _, rfl, rfl, rfl, rfl⟩ rfl rfl ?_
       refine wl_no (k := 5) (k' := 6) (d := 28) rfl rfl ⟨_, _, _, rfl, rfl, rfl, rfl⟩ rfl rfl ?_
       refine wlo 6 7 rfl rfl rfl (wo_run rfl rfl (run_pickF rfl rfl rfl) ?_)
       refine wl_end rfl ?_
       refine nm_sub [(0, _), (4, _), (5, _), (6, _), (29, _)] ⟨rfl, rfl, rfl, rfl, rfl, trivial⟩ ?_
       refine nm_thn ?_
       refine ws_condFN ReadPoly_n41 rfl rfl rfl ?_
       refine ws_seqN ReadPoly_n44 ReadPoly_n45 rfl rfl rfl ?_
       refine ws_region rfl ?_
       refine wlm 0 1 rfl rfl rfl rfl rfl rfl rfl ?_
       refine wlo 1 2 rfl rfl rfl (wo_run rfl rfl (run_gtr rfl rfl rfl) ?_)
       refine wl_end rfl ?_
       refine nm_sub [(0, _), (4, _), (5, _), (6, _), (33, _)] ⟨rfl, rfl, rfl, rfl, rfl, trivial⟩ ?_
       refine nm_thn ?_
       refine ws_condN ReadPoly_n46 ReadPoly_n47 rfl rfl rfl rfl (fun hb33 => ?_) (fun hb33 => ?_)
       ·replace hb33 := of_decide_eq_true hb33
        refine ws_seqN ReadPoly_n48 ReadPoly_n49 rfl rfl rfl ?_
        refine ws_seqN ReadPoly_n50 ReadPoly_n51 rfl rfl rfl ?_
        refine ws_region rfl ?_
        refine wlm 0 1 rfl rfl rfl rfl rfl rfl rfl ?_
        refine wlo 1 2 rfl rfl rfl (wo_run rfl rfl (run_add rfl rfl rfl (by first | omega | (simp only [lens]; omega))) ?_)
        refine wlm 2 3 rfl rfl rfl rfl rfl rfl rfl ?_
        refine wlo 3 4 rfl rfl rfl (wo_run rfl rfl (run_lenS rfl rfl rfl rfl rfl rfl Tryd.underlying9) ?_)
        refine wlo 4 5 rfl rfl rfl (wo_run rfl rfl (run_gtr rfl rfl rfl) ?_)
        refine wlm 5 6 rfl rfl rfl rfl rfl rfl rfl ?_
        refine wl_split (t := 39) rfl (fun hg39 => ?_) (fun hg39 => ?_)
        ·replace hg39 := of_decide_eq_true hg39
         refine wl_no (k := 6) (k' := 7) (d := 40) rfl rfl ⟨_, _, _, rfl, rfl, rfl, rfl⟩ rfl rfl ?_
         refine wl_no (k := 7) (k' := 8) (d := 41) rfl rfl ⟨_, _, _, rfl, rfl, rfl, rfl⟩ rfl rfl ?_
         refine wl_no (k := 8) (k' := 9) (d := 42) rfl rfl ⟨_, _, _, rfl, rfl, rfl, rfl⟩ rfl rfl ?_
         refine wl_no (k := 9) (k' := 10) (d := 43) rfl rfl ⟨_, _, _, rfl, rfl, rfl, rfl⟩ rfl rfl ?_
         refine wlo 10 11 rfl rfl rfl (wo_run rfl rfl (run_pickT rfl rfl rfl) ?_)
         refine wlm 11 12 rfl rfl rfl rfl rfl rfl rfl ?_
         refine wl_no (k := 12) (k' := 13) (d := 46) rfl rfl ⟨_, _, _, rfl, rfl, rfl, rfl⟩ rfl rfl ?_
         refine wl_no (k := 13) (k' := 14) (d := 47) rfl rfl ⟨_, _, _, rfl, rfl, rfl, rfl⟩ rfl rfl ?_
         refine wl_no (k := 14) (k' := 15) (d := 48) rfl rfl ⟨_, _, _, rfl, rfl, rfl, rfl⟩ rfl rfl ?_
         refine wl_no (k := 15) (k' := 16) (d := 49) rfl rfl ⟨_, _, _, rfl, rfl, rfl, rfl⟩ rfl rfl ?_
         refine wl_no (k := 16) (k' := 17) (d := 50) rfl rfl ⟨_, _, _, rfl, rfl, rfl, rfl⟩ rfl rfl ?_
         refine wl_no (k := 17) (k' := 18) (d := 51) rfl rfl ⟨_, _, _, rfl, rfl, rfl, rfl⟩ rfl rfl ?_
         refine wl_no (k := 18) (k' := 19) (d := 52) rfl rfl ⟨_, _, _, rfl, rfl, rfl, rfl⟩ rfl rfl ?_
         refine wl_no (k := 19) (k' := 20) (d := 53) rfl rfl ⟨_, _, _, rfl, rfl, rfl, rfl⟩ rfl rfl ?_
         refine wl_no (k := 20) (k' := 21) (d := 54) rfl rfl ⟨_, _, _, rfl, rfl, rfl, rfl⟩ rfl rfl ?_
         refine wl_no (k := 21) (k' := 22) (d := 55) rfl rfl ⟨_, _, _, rfl, rfl, rfl, rfl⟩ rfl rfl ?_
         refine wl_no (k := 22) (k' := 23) (d := 56) rfl rfl ⟨_, _, _, rfl, rfl, rfl, rfl⟩ rfl rfl ?_
         refine wl_no (k := 23) (k' := 24) (d := 57) rfl rfl ⟨_, _, _, rfl, rfl, rfl, rfl⟩ rfl rfl ?_
         refine wlo 24 25 rfl rfl rfl (wo_run rfl rfl (run_pickT rfl rfl rfl) ?_)
         refine wlm 25 26 rfl rfl rfl rfl rfl rfl rfl ?_
         refine wl_no (k := 26) (k' := 27) (d := 60) rfl rfl ⟨_, _, _, rfl, rfl, rfl, rfl⟩ rfl rfl ?_
         refine wl_no (k := 27) (k' := 28) (d := 61) rfl rfl ⟨_, _, _, rfl, rfl, rfl, rfl⟩ rfl rfl ?_
         refine wl_no (k := 28) (k' := 29) (d := 62) rfl rfl ⟨_, _, _, rfl, rfl, rfl, rfl⟩ rfl rfl ?_
         refine wl_no (k := 29) (k' := 30) (d := 63) rfl rfl ⟨_, _, _, rfl, rfl, rfl, rfl⟩ rfl rfl ?_
         refine wl_no (k := 30) (k' := 31) (d := 64) rfl rfl ⟨_, _, _, rfl, rfl, rfl, rfl⟩ rfl rfl ?_
         refine wlo 31 32 rfl rfl rfl (wo_run rfl rfl (run_pickT rfl rfl rfl) ?_)
         refine wl_end rfl ?_
         refine nm_sub [(0, _), (4, _), (5, _), (6, _), (65, _)] ⟨rfl, rfl, rfl, rfl, rfl, trivial⟩ ?_
         refine nm_thn ?_
         refine ws_condTN ReadPoly_n52 rfl rfl rfl ?_
         refine ws_seqN ReadPoly_n54 ReadPoly_n55 rfl rfl rfl ?_
         refine ws_region rfl ?_
         refine wla 0 1 rfl rfl rfl rfl rfl rfl rfl ?_
         refine wla 1 2 rfl rfl rfl rfl rfl rfl rfl ?_
         refine wl_end rfl ?_
         refine nm_sub [(2, _), (3, _)] ⟨rfl, rfl, trivial⟩ ?_
         refine nm_thn ?_
         refine ws_ret hC [_, _] rfl rfl ⟨rfl, rfl, trivial⟩ ?_
         refine ⟨_, rfl, _, hle1, (S2.pick [] [] (by decide) trivial), ?_⟩
         refine TE.of (p := ([], 1)) ⟨_, _, rfl, RdA.nil_⟩ ?_
         unfold pieceR
         rw [if_neg (by omega), if_neg (by assumption)]
         have hrr : runR s s.length 0 [] = none := by rw [← hrn]; exact runR_no (by omega) hf (step_no (sg_n (by omega) (by first | exact .inl (by omega) | exact .inr (.inl (by assumption)) | exact .inr (.inr (.inl ⟨by assumption, by assumption⟩)) | exact .inr (.inr (.inr (by assumption))))))
         unfold refR
         rw [hrr]
        ·replace hg39 := of_decide_eq_false hg39
         refine wl_opG (k := 6) (k' := 7) rfl rfl ⟨_, _, _, rfl, rfl, rfl, rfl⟩ rfl (wo_run rfl rfl (run_move rfl rfl) ?_)
         refine wl_opG (k := 7) (k' := 8) rfl rfl ⟨_, _, _, rfl, rfl, rfl, rfl⟩ rfl (wo_run rfl rfl (run_move rfl rfl) ?_)
         refine wl_opG (k := 8) (k' := 9) rfl rfl ⟨_, _, _, rfl, rfl, rfl, rfl⟩ rfl (wo_run rfl rfl (run_indexS k rfl rfl rfl Tryd.underlying9 ((by first | omega | (simp only [lens]; omega)))) ?_)
         refine wl_opG (k := 9) (k' := 10) rfl rfl ⟨_, _, _, rfl, rfl, rfl, rfl⟩ rfl (wo_run rfl rfl (run_neqB (p := (ga s k)) (q := 32) rfl rfl rfl) ?_)
         refine wlo 10 11 rfl rfl rfl (wo_run rfl rfl (run_pickF rfl rfl rfl) ?_)
         refine wlm 11 12 rfl rfl rfl rfl rfl rfl rfl ?_
         refine wl_split (t := 45) rfl (fun hg45 => ?_) (fun hg45 => ?_)
         ·replace hg45 := of_decide_eq_true hg45
          refine wl_no (k := 12) (k' := 13) (d := 46) rfl rfl ⟨_, _, _, rfl, rfl, rfl, rfl⟩ rfl rfl ?_
          refine wl_no (k := 13) (k' := 14) (d := 47) rfl rfl ⟨_, _, _, rfl, rfl, rfl, rfl⟩ rfl rfl ?_
          refine wl_no (k := 14) (k' := 15) (d := 48) rfl rfl ⟨_, _, _, rfl, rfl, rfl, rfl⟩ rfl rfl ?_
          refine wl_no (k := 15) (k' := 16) (d := 49) rfl rfl ⟨_, _, _, rfl, rfl, rfl, rfl⟩ rfl rfl ?_
          refine wl_no (k := 16) (k' := 17) (d := 50) rfl rfl ⟨_, _, _, rfl, rfl, rfl, rfl⟩ rfl rfl ?_
          refine wl_no (k := 17) (k' := 18) (d := 51) rfl rfl ⟨_, _, _, rfl, rfl, rfl, rfl⟩ rfl rfl ?_
          refine wl_no (k := 18) (k' := 19) (d := 52) rfl rfl ⟨_, _, _, rfl, rfl, rfl, rfl⟩ rfl rfl ?_
          refine wl_no (k := 19) (k' := 20) (d := 53) rfl rfl ⟨_, _, _, rfl, rfl, rfl, rfl⟩ rfl rfl ?_
          refine wl_no (k := 20) (k' := 21) (d := 54) rfl rfl ⟨_, _, _, rfl, rfl, rfl, rfl⟩ rfl rfl ?_
          refine wl_no (k := 21) (k' := 22) (d := 55) rfl rfl ⟨_, _, _, rfl, rfl, rfl, rfl⟩ rfl rfl ?_
          refine wl_no (k := 22) (k' := 23) (d := 56) rfl rfl ⟨_, _, _, rfl, rfl, rfl, rfl⟩ rfl rfl ?_
          refine wl_no (k := 23) (k' := 24) (d := 57) rfl rfl ⟨_, _, _, rfl, rfl, rfl, rfl⟩ rfl rfl ?_
          refine wlo 24 25 rfl rfl rfl (wo_run rfl rfl (run_pickT rfl rfl rfl) ?_)
          refine wlm 25 26 rfl rfl rfl rfl rfl rfl rfl ?_
          refine wl_no (k := 26) (k' := 27) (d := 60) rfl rfl ⟨_, _, _, rfl, rfl, rfl, rfl⟩ rfl rfl ?_
          refine wl_no (k := 27) (k' := 28) (d := 61) rfl rfl ⟨_, _, _, rfl, rfl, rfl, rfl⟩ rfl rfl ?_
          refine wl_no (k := 28) (k' := 29) (d := 62) rfl rfl ⟨_, _, _, rfl, rfl, rfl, rfl⟩ rfl rfl ?_
          refine wl_no (k := 29) (k' := 30) (d := 63) rfl rfl ⟨_, _, _, rfl, rfl, rfl, rfl⟩ rfl rfl ?_
          refine wl_no (k := 30) (k' := 31) (d := 64) rfl rfl ⟨_, _, _, rfl, rfl, rfl, rfl⟩ rfl rfl ?_
          refine wlo 31 32 rfl rfl rfl (wo_run rfl rfl (run_pickT rfl rfl rfl) ?_)
          refine wl_end rfl ?_
          refine nm_sub [(0, _), (4, _), (5, _), (6, _), (65, _)] ⟨rfl, rfl, rfl, rfl, rfl, trivial⟩ ?_
          refine nm_thn ?_
          refine ws_condTN ReadPoly_n52 rfl rfl rfl ?_
          refine ws_seqN ReadPoly_n54 ReadPoly_n55 rfl rfl rfl ?_
          refine ws_region rfl ?_
          refine wla 0 1 rfl rfl rfl rfl rfl rfl rfl ?_
          refine wla 1 2 rfl rfl rfl rfl rfl rfl rfl ?_
          refine wl_end rfl ?_
          refine nm_sub [(2, _), (3, _)] ⟨rfl, rfl, trivial⟩ ?_
          refine nm_thn ?_
          refine ws_ret hC [_, _] rfl rfl ⟨rfl, rfl, trivial⟩ ?_
          refine ⟨_, rfl, _, hle1, (S2.pick [] [] (by decide) trivial), ?_⟩
          refine TE.of (p := ([], 1)) ⟨_, _, rfl, RdA.nil_⟩ ?_
          unfold pieceR
          rw [if_neg (by omega), if_neg (by assumption)]
          have hrr : runR s s.length 0 [] = none := by rw [← hrn]; exact runR_no (by omega) hf (step_no (sg_n (by omega) (by first | exact .inl (by omega) | exact .inr (.inl (by assumption)) | exact .inr (.inr (.inl ⟨by assumption, by assumption⟩)) | exact .inr (.inr (.inr (by assumption))))))
          unfold refR
          rw [hrr]
         ·replace hg45 := of_decide_eq_false hg45
          refine wl_opG (k := 12) (k' := 13) rfl rfl ⟨_, _, _, rfl, rfl, rfl, rfl⟩ rfl (wo_run rfl rfl (run_move rfl rfl) ?_)
          refine wl_opG (k := 13) (k' := 14) rfl rfl ⟨_, _, _, rfl, rfl, rfl, rfl⟩ rfl (wo_run rfl rfl (run_move rfl rfl) ?_)
          refine wl_opG (k := 14) (k' := 15) rfl rfl ⟨_, _, _, rfl, rfl, rfl, rfl⟩ rfl (wo_run rfl rfl (run_add rfl rfl rfl (by first | omega | (simp only [lens]; omega))) ?_)
          refine wl_opG (k := 15) (k' := 16) rfl rfl ⟨_, _, _, rfl, rfl, rfl, rfl⟩ rfl (wo_run rfl rfl (run_indexS (k + 1) rfl rfl rfl Tryd.underlying9 ((by first | omega | (simp only [lens]; omega)))) ?_)
          refine wl_opG (k := 16) (k' := 17) rfl rfl ⟨_, _, _, rfl, rfl, rfl, rfl⟩ rfl (wo_run rfl rfl (run_neqB (p := (ga s (k + 1))) (q := 43) rfl rfl rfl) ?_)
          refine wl_opG (k := 17) (k' := 18) rfl rfl ⟨_, _, _, rfl, rfl, rfl, rfl⟩ rfl (wo_run rfl rfl (run_move rfl rfl) ?_)
          refine wl_split (t := 51) rfl (fun hg51 => ?_) (fun hg51 => ?_)
          ·replace hg51 := of_decide_eq_true hg51
           refine wl_opG (k := 18) (k' := 19) rfl rfl ⟨_, _, _, rfl, rfl, rfl, rfl⟩ rfl (wo_run rfl rfl (run_move rfl rfl) ?_)
           refine wl_opG (k := 19) (k' := 20) rfl rfl ⟨_, _, _, rfl, rfl, rfl, rfl⟩ rfl (wo_run rfl rfl (run_move rfl rfl) ?_)
           refine wl_opG (k := 20) (k' := 21) rfl rfl ⟨_, _, _, rfl, rfl, rfl, rfl⟩ rfl (wo_run rfl rfl (run_add rfl rfl rfl (by first | omega | (simp only [lens]; omega))) ?_)
           refine wl_opG (k := 21) (k' := 22) rfl rfl ⟨_, _, _, rfl, rfl, rfl, rfl⟩ rfl (wo_run rfl rfl (run_indexS (k + 1) rfl rfl rfl Tryd.underlying9 ((by first | omega | (simp only [lens]; omega)))) ?_)
           refine wl_opG (k := 22) (k' := 23) rfl rfl ⟨_, _, _, rfl, rfl, rfl, rfl⟩ rfl (wo_run rfl rfl (run_neqB (p := (ga s (k + 1))) (q := 45) rfl rfl rfl) ?_)
           refine wl_opG (k := 23) (k' := 24) rfl rfl ⟨_, _, _, rfl, rfl, rfl, rfl⟩ rfl (wo_run rfl rfl (run_pickT rfl rfl rfl) ?_)
           refine wlo 24 25 rfl rfl rfl (wo_run rfl rfl (run_pickF rfl rfl rfl) ?_)
           refine wlm 25 26 rfl rfl rfl rfl rfl rfl rfl ?_
           refine wl_split (t := 59) rfl (fun hg59 => ?_) (fun hg59 => ?_)
           ·replace hg59 := of_decide_eq_true hg59
            refine wl_no (k := 26) (k' := 27) (d := 60) rfl rfl ⟨_, _, _, rfl, rfl, rfl, rfl⟩ rfl rfl ?_
            refine wl_no (k := 27) (k' := 28) (d := 61) rfl rfl ⟨_, _, _, rfl, rfl, rfl, rfl⟩ rfl rfl ?_
            refine wl_no (k := 28) (k' := 29) (d := 62) rfl rfl ⟨_, _, _, rfl, rfl, rfl, rfl⟩ rfl rfl ?_
            refine wl_no (k := 29) (k' := 30) (d := 63) rfl rfl ⟨_, _, _, rfl, rfl, rfl, rfl⟩ rfl rfl ?_
            refine wl_no (k := 30) (k' := 31) (d := 64) rfl rfl ⟨_, _, _, rfl, rfl, rfl, rfl⟩ rfl rfl ?_
            refine wlo 31 32 rfl rfl rfl (wo_run rfl rfl (run_pickT rfl rfl rfl) ?_)
            refine wl_end rfl ?_
            refine nm_sub [(0, _), (4, _), (5, _), (6, _), (65, _)] ⟨rfl, rfl, rfl, rfl, rfl, trivial⟩ ?_
            refine nm_thn ?_
            refine ws_condTN ReadPoly_n52 rfl rfl rfl ?_
            refine ws_seqN ReadPoly_n54 ReadPoly_n55 rfl rfl rfl ?_
            refine ws_region rfl ?_
            refine wla 0 1 rfl rfl rfl rfl rfl rfl rfl ?_
            refine wla 1 2 rfl rfl rfl rfl rfl rfl rfl ?_
            refine wl_end rfl ?_
            refine nm_sub [(2, _), (3, _)] ⟨rfl, rfl, trivial⟩ ?_
            refine nm_thn ?_
            refine ws_ret hC [_, _] rfl rfl ⟨rfl, rfl, trivial⟩ ?_
            refine ⟨_, rfl, _, hle1, (S2.pick [] [] (by decide) trivial), ?_⟩
            refine TE.of (p := ([], 1)) ⟨_, _, rfl, RdA.nil_⟩ ?_
            unfold pieceR
            rw [if_neg (by omega), if_neg (by assumption)]
            have hrr : runR s s.length 0 [] = none := by rw [← hrn]; exact runR_no (by omega) hf (step_no (sg_n (by omega) (by first | exact .inl (by omega) | exact .inr (.inl (by assumption)) | exact .inr (.inr (.inl ⟨by assumption, by assumption⟩)) | exact .inr (.inr (.inr (by assumption))))))
            unfold refR
            rw [hrr]
           ·replace hg59 := of_decide_eq_false hg59
            refine wl_opG (k := 26) (k' := 27) rfl rfl ⟨_, _, _, rfl, rfl, rfl, rfl⟩ rfl (wo_run rfl rfl (run_move rfl rfl) ?_)
            refine wl_opG (k := 27) (k' := 28) rfl rfl ⟨_, _, _, rfl, rfl, rfl, rfl⟩ rfl (wo_run rfl rfl (run_move rfl rfl) ?_)
            refine wl_opG (k := 28) (k' := 29) rfl rfl ⟨_, _, _, rfl, rfl, rfl, rfl⟩ rfl (wo_run rfl rfl (run_add rfl rfl rfl (by first | omega | (simp only [lens]; omega))) ?_)
            refine wl_opG (k := 29) (k' := 30) rfl rfl ⟨_, _, _, rfl, rfl, rfl, rfl⟩ rfl (wo_run rfl rfl (run_indexS (k + 2) rfl rfl rfl Tryd.underlying9 ((by first | omega | (simp only [lens]; omega)))) ?_)
            refine wl_opG (k := 30) (k' := 31) rfl rfl ⟨_, _, _, rfl, rfl, rfl, rfl⟩ rfl (wo_run rfl rfl (run_neqB (p := (ga s (k + 2))) (q := 32) rfl rfl rfl) ?_)
            refine wlo 31 32 rfl rfl rfl (wo_run rfl rfl (run_pickF rfl rfl rfl) ?_)
            refine wl_end rfl ?_
            refine nm_sub [(0, _), (4, _), (5, _), (6, _), (65, _)] ⟨rfl, rfl, rfl, rfl, rfl, trivial⟩ ?_
            refine nm_thn ?_
            refine ws_condN ReadPoly_n52 ReadPoly_n53 rfl rfl rfl rfl (fun hb65 => ?_) (fun hb65 => ?_)
            ·replace hb65 := of_decide_eq_true hb65
             refine ws_seqN ReadPoly_n54 ReadPoly_n55 rfl rfl rfl ?_
             refine ws_region rfl ?_
             refine wla 0 1 rfl rfl rfl rfl rfl rfl rfl ?_
             refine wla 1 2 rfl rfl rfl rfl rfl rfl rfl ?_
             refine wl_end rfl ?_
             refine nm_sub [(2, _), (3, _)] ⟨rfl, rfl, trivial⟩ ?_
             refine nm_thn ?_
             refine ws_ret hC [_, _] rfl rfl ⟨rfl, rfl, trivial⟩ ?_
             refine ⟨_, rfl, _, hle1, (S2.pick [] [] (by decide) trivial), ?_⟩
             refine TE.of (p := ([], 1)) ⟨_, _, rfl, RdA.nil_⟩ ?_
             unfold pieceR
             rw [if_neg (by omega), if_neg (by assumption)]
             have hrr : runR s s.length 0 [] = none := by rw [← hrn]; exact runR_no (by omega) hf (step_no (sg_n (by omega) (by first | exact .inl (by omega) | exact .inr (.inl (by assumption)) | exact .inr (.inr (.inl ⟨by assumption, by assumption⟩)) | exact .inr (.inr (.inr (by assumption))))))
             unfold refR
             rw [hrr]
            ·replace hb65 := of_decide_eq_false hb65
             refine ws_skip rfl ?_
             refine nm_sub [(0, _), (4, _), (5, _), (6, _)] ⟨rfl, rfl, rfl, rfl, trivial⟩ ?_
             refine nm_thn ?_
             refine ws_seqN ReadPoly_n56 ReadPoly_n57 rfl rfl rfl ?_
             refine ws_seqN ReadPoly_n58 ReadPoly_n59 rfl rfl rfl ?_
             refine ws_region rfl ?_
             refine wlm 0 1 rfl rfl rfl rfl rfl rfl rfl ?_
             refine wlm 1 2 rfl rfl rfl rfl rfl rfl rfl ?_
             refine wlo 2 3 rfl rfl rfl (wo_run rfl rfl (run_add rfl rfl rfl (by first | omega | (simp only [lens]; omega))) ?_)
             refine wlo 3 4 rfl rfl rfl (wo_run rfl rfl (run_indexS (k + 1) rfl rfl rfl Tryd.underlying9 ((by first | omega | (simp only [lens]; omega)))) ?_)
             refine wlo 4 5 rfl rfl rfl (wo_run rfl rfl (run_eqlB (p := (ga s (k + 1))) (q := 45) rfl rfl rfl) ?_)
             refine wl_end rfl ?_
             refine nm_sub [(0, _), (4, _), (5, _), (6, _), (70, _)] ⟨rfl, rfl, rfl, rfl, rfl, trivial⟩ ?_
             refine nm_thn ?_
             refine ws_condN ReadPoly_n60 ReadPoly_n61 rfl rfl rfl rfl (fun hb70 => ?_) (fun hb70 => ?_)
             ·replace hb70 := of_decide_eq_true hb70
              refine ws_region rfl ?_
              refine wla 0 1 rfl rfl rfl rfl rfl rfl rfl ?_
              refine wl_end rfl ?_
              refine nm_sub [(0, _), (4, _), (5, _), (6, _)] ⟨rfl, rfl, rfl, rfl, trivial⟩ ?_
              refine nm_thn ?_
              refine ws_region rfl ?_
              refine wlm 0 1 rfl rfl rfl rfl rfl rfl rfl ?_
              refine wlo 1 2 rfl rfl rfl (wo_run rfl rfl (run_add rfl rfl rfl (by first | omega | (simp only [lens]; omega))) ?_)
              refine wla 2 3 rfl rfl rfl rfl rfl rfl rfl ?_
              refine wl_end rfl ?_
              refine nm_lp ?_
              intro ax_ hax_
              refine ⟨(-1), k + 3, _, (Hp.le_refl _), hax_.sub ⟨rfl, rfl, rfl, rfl, trivial⟩, S2.pick [0] [_] (by decide) ⟨rfl, trivial⟩, ?hq8f0, ?hq8f1, ?hq8f2, ?hq8f3⟩
              case hq8f0 => first | exact sg_a (by omega) (by assumption) | exact sg_b (by omega) (by assumption) | exact sg_c1 (by omega) (by omega) (by first | assumption | exact Classical.not_not.1 (by assumption)) (by assumption) (by first | assumption | exact Classical.not_not.1 (by assumption)) | exact sg_c2 (by omega) (by omega) (by first | assumption | exact Classical.not_not.1 (by assumption)) (by first | assumption | exact Classical.not_not.1 (by assumption)) (by first | assumption | exact Classical.not_not.1 (by assumption)) | (exfalso; omega) | exact absurd ‹¬ga s (k + 1) = 45› ‹¬¬ga s (k + 1) = 45›
              case hq8f1 => omega
              case hq8f2 => omega
              case hq8f3 => omega
             ·replace hb70 := of_decide_eq_false hb70
              refine ws_skip rfl ?_
              refine nm_sub [(0, _), (4, _), (5, _), (6, _)] ⟨rfl, rfl, rfl, rfl, trivial⟩ ?_
              refine nm_thn ?_
              refine ws_region rfl ?_
              refine wlm 0 1 rfl rfl rfl rfl rfl rfl rfl ?_
              refine wlo 1 2 rfl rfl rfl (wo_run rfl rfl (run_add rfl rfl rfl (by first | omega | (simp only [lens]; omega))) ?_)
              refine wla 2 3 rfl rfl rfl rfl rfl rfl rfl ?_
              refine wl_end rfl ?_
              refine nm_lp ?_
              intro ax_ hax_
              refine ⟨1, k + 3, _, (Hp.le_refl _), hax_.sub ⟨rfl, rfl, rfl, rfl, trivial⟩, S2.pick [0] [_] (by decide) ⟨rfl, trivial⟩, ?hq9f0, ?hq9f1, ?hq9f2, ?hq9f3⟩
              case hq9f0 => first | exact sg_a (by omega) (by assumption) | exact sg_b (by omega) (by assumption) | exact sg_c1 (by omega) (by omega) (by first | assumption | exact Classical.not_not.1 (by assumption)) (by assumption) (by first | assumption | exact Classical.not_not.1 (by assumption)) | exact sg_c2 (by omega) (by omega) (by first | assumption | exact Classical.not_not.1 (by assumption)) (by first | assumption | exact Classical.not_not.1 (by assumption)) (by first | assumption | exact Classical.not_not.1 (by assumption)) | (exfalso; omega) | exact absurd ‹¬ga s (k + 1) = 45› ‹¬¬ga s (k + 1) = 45›
              case hq9f1 => omega
              case hq9f2 => omega
              case hq9f3 => omega
          ·replace hg51 := of_decide_eq_false hg51
           refine wl_no (k := 18) (k' := 19) (d := 52) rfl rfl ⟨_, _, _, rfl, rfl, rfl, rfl⟩ rfl rfl ?_
           refine wl_no (k := 19) (k' := 20) (d := 53) rfl rfl ⟨_, _, _, rfl, rfl, rfl, rfl⟩ rfl rfl ?_
           refine wl_no (k := 20) (k' := 21) (d := 54) rfl rfl ⟨_, _, _, rfl, rfl, rfl, rfl⟩ rfl rfl ?_
           refine wl_no (k := 21) (k' := 22) (d := 55) rfl rfl ⟨_, _, _, rfl, rfl, rfl, rfl⟩ rfl rfl ?_
           refine wl_no (k := 22) (k' := 23) (d := 56) rfl rfl ⟨_, _, _, rfl, rfl, rfl, rfl⟩ rfl rfl ?_
           refine wl_opG (k := 23) (k' := 24) rfl rfl ⟨_, _, _, rfl, rfl, rfl, rfl⟩ rfl (wo_run rfl rfl (run_pickF rfl rfl rfl) ?_)
           refine wlo 24 25 rfl rfl rfl (wo_run rfl rfl (run_pickF rfl rfl rfl) ?_)
           refine wlm 25 26 rfl rfl rfl rfl rfl rfl rfl ?_
           refine wl_opG (k := 26) (k' := 27) rfl rfl ⟨_, _, _, rfl, rfl, rfl, rfl⟩ rfl (wo_run rfl rfl (run_move rfl rfl) ?_)
           refine wl_opG (k := 27) (k' := 28) rfl rfl ⟨_, _, _, rfl, rfl, rfl, rfl⟩ rfl (wo_run rfl rfl (run_move rfl rfl) ?_)
           refine wl_opG (k := 28) (k' := 29) rfl rfl ⟨_, _, _, rfl, rfl, rfl, rfl⟩ rfl (wo_run rfl rfl (run_add rfl rfl rfl (by first | omega | (simp only [lens]; omega))) ?_)
           refine wl_opG (k := 29) (k' := 30) rfl rfl ⟨_, _, _, rfl, rfl, rfl, rfl⟩ rfl (wo_run rfl rfl (run_indexS (k + 2) rfl rfl rfl Tryd.underlying9 ((by first | omega | (simp only [lens]; omega)))) ?_)
           refine wl_opG (k := 30) (k' := 31) rfl rfl ⟨_, _, _, rfl, rfl, rfl, rfl⟩ rfl (wo_run rfl rfl (run_neqB (p := (ga s (k + 2))) (q := 32) rfl rfl rfl) ?_)
           refine wlo 31 32 rfl rfl rfl (wo_run rfl rfl (run_pickF rfl rfl rfl) ?_)
           refine wl_end rfl ?_
           refine nm_sub [(0, _), (4, _), (5, _), (6, _), (65, _)] ⟨rfl, rfl, rfl, rfl, rfl, trivial⟩ ?_
           refine nm_thn ?_
           refine ws_condN ReadPoly_n52 ReadPoly_n53 rfl rfl rfl rfl (fun hb65 => ?_) (fun hb65 => ?_)
           ·replace hb65 := of_decide_eq_true hb65
            refine ws_seqN ReadPoly_n54 ReadPoly_n55 rfl rfl rfl ?_
            refine ws_region rfl ?_
            refine wla 0 1 rfl rfl rfl rfl rfl rfl rfl ?_
            refine wla 1 2 rfl rfl rfl rfl rfl rfl rfl ?_
            refine wl_end rfl ?_
            refine nm_sub [(2, _), (3, _)] ⟨rfl, rfl, trivial⟩ ?_
            refine nm_thn ?_
            refine ws_ret hC [_, _] rfl rfl ⟨rfl, rfl, trivial⟩ ?_
            refine ⟨_, rfl, _, hle1, (S2.pick [] [] (by decide) trivial), ?_⟩
            refine TE.of (p := ([], 1)) ⟨_, _, rfl, RdA.nil_⟩ ?_
            unfold pieceR
            rw [if_neg (by omega), if_neg (by assumption)]
            have hrr : runR s s.length 0 [] = none := by rw [← hrn]; exact runR_no (by omega) hf (step_no (sg_n (by omega) (by first | exact .inl (by omega) | exact .inr (.inl (by assumption)) | exact .inr (.inr (.inl ⟨by assumption, by assumption⟩)) | exact .inr (.inr (.inr (by assumption))))))
            unfold refR
            rw [hrr]
           ·replace hb65 := of_decide_eq_false hb65
            refine ws_skip rfl ?_
            refine nm_sub [(0, _), (4, _), (5, _), (6, _)] ⟨rfl, rfl, rfl, rfl, trivial⟩ ?_
            refine nm_thn ?_
            refine ws_seqN ReadPoly_n56 ReadPoly_n57 rfl rfl rfl ?_
            refine ws_seqN ReadPoly_n58 ReadPoly_n59 rfl rfl rfl ?_
            refine ws_region rfl ?_
            refine wlm 0 1 rfl rfl rfl rfl rfl rfl rfl ?_
            refine wlm 1 2 rfl rfl rfl rfl rfl rfl rfl ?_
            refine wlo 2 3 rfl rfl rfl (wo_run rfl rfl (run_add rfl rfl rfl (by first | omega | (simp only [lens]; omega))) ?_)
            refine wlo 3 4 rfl rfl rfl (wo_run rfl rfl (run_indexS (k + 1) rfl rfl rfl Tryd.underlying9 ((by first | omega | (simp only [lens]; omega)))) ?_)
            refine wlo 4 5 rfl rfl rfl (wo_run rfl rfl (run_eqlB (p := (ga s (k + 1))) (q := 45) rfl rfl rfl) ?_)
            refine wl_end rfl ?_
            refine nm_sub [(0, _), (4, _), (5, _), (6, _), (70, _)] ⟨rfl, rfl, rfl, rfl, rfl, trivial⟩ ?_
            refine nm_thn ?_
            refine ws_condN ReadPoly_n60 ReadPoly_n61 rfl rfl rfl rfl (fun hb70 => ?_) (fun hb70 => ?_)
            ·replace hb70 := of_decide_eq_true hb70
             refine ws_region rfl ?_
             refine wla 0 1 rfl rfl rfl rfl rfl rfl rfl ?_
             refine wl_end rfl ?_
             refine nm_sub [(0, _), (4, _), (5, _), (6, _)] ⟨rfl, rfl, rfl, rfl, trivial⟩ ?_
             refine nm_thn ?_
             refine ws_region rfl ?_
             refine wlm 0 1 rfl rfl rfl rfl rfl rfl rfl ?_
             refine wlo 1 2 rfl rfl rfl (wo_run rfl rfl (run_add rfl rfl rfl (by first | omega | (simp only [lens]; omega))) ?_)
             refine wla 2 3 rfl rfl rfl rfl rfl rfl rfl ?_
             refine wl_end rfl ?_
             refine nm_lp ?_
             intro ax_ hax_
             refine ⟨(-1), k + 3, _, (Hp.le_refl _), hax_.sub ⟨rfl, rfl, rfl, rfl, trivial⟩, S2.pick [0] [_] (by decide) ⟨rfl, trivial⟩, ?hq10f0, ?hq10f1, ?hq10f2, ?hq10f3⟩
             case hq10f0 => first | exact sg_a (by omega) (by assumption) | exact sg_b (by omega) (by assumption) | exact sg_c1 (by omega) (by omega) (by first | assumption | exact Classical.not_not.1 (by assumption)) (by assumption) (by first | assumption | exact Classical.not_not.1 (by assumption)) | exact sg_c2 (by omega) (by omega) (by first | assumption | exact Classical.not_not.1 (by assumption)) (by first | assumption | exact Classical.not_not.1 (by assumption)) (by first | assumption | exact Classical.not_not.1 (by assumption)) | (exfalso; omega) | exact absurd ‹¬ga s (k + 1) = 45› ‹¬¬ga s (k + 1) = 45›
             case hq10f1 => omega
             case hq10f2 => omega
             case hq10f3 => omega
            ·replace hb70 := of_decide_eq_false hb70
             refine ws_skip rfl ?_
             refine nm_sub [(0, _), (4, _), (5, _), (6, _)] ⟨rfl, rfl, rfl, rfl, trivial⟩ ?_
             refine nm_thn ?_
             refine ws_region rfl ?_
             refine wlm 0 1 rfl rfl rfl rfl rfl rfl rfl ?_
             refine wlo 1 2 rfl rfl rfl (wo_run rfl rfl (run_add rfl rfl rfl (by first | omega | (simp only [lens]; omega))) ?_)
             refine wla 2 3 rfl rfl rfl rfl rfl rfl rfl ?_
             refine wl_end rfl ?_
             refine nm_lp ?_
             intro ax_ hax_
             refine ⟨1, k + 3, _, (Hp.le_refl _), hax_.sub ⟨rfl, rfl, rfl, rfl, trivial⟩, S2.pick [0] [_] (by decide) ⟨rfl, trivial⟩, ?hq11f0, ?hq11f1, ?hq11f2, ?hq11f3⟩
             case hq11f0 => first | exact sg_a (by omega) (by assumption) | exact sg_b (by omega) (by assumption) | exact sg_c1 (by omega) (by omega) (by first | assumption | exact Classical.not_not.1 (by assumption)) (by assumption) (by first | assumption | exact Classical.not_not.1 (by assumption)) | exact sg_c2 (by omega) (by omega) (by first | assumption | exact Classical.not_not.1 (by assumption)) (by first | assumption | exact Classical.not_not.1 (by assumption)) (by first | assumption | exact Classical.not_not.1 (by assumption)) | (exfalso; omega) | exact absurd ‹¬ga s (k + 1) = 45› ‹¬¬ga s (k + 1) = 45›
             case hq11f1 => omega
             case hq11f2 => omega
             case hq11f3 => omega
       ·replace hb33 := of_decide_eq_false hb33
        refine ws_skip rfl ?_
        refine nm_lp ?_
        intro ax_ hax_
        refine ⟨1, k, _, (Hp.le_refl _), hax_.sub ⟨rfl, rfl, rfl, rfl, trivial⟩, S2.pick [0] [_] (by decide) ⟨rfl, trivial⟩, ?hq12f0, ?hq12f1, ?hq12f2, ?hq12f3⟩
        case hq12f0 => first | exact sg_a (by omega) (by assumption) | exact sg_b (by omega) (by assumption) | exact sg_c1 (by omega) (by omega) (by first | assumption | exact Classical.not_not.1 (by assumption)) (by assumption) (by first | assumption | exact Classical.not_not.1 (by assumption)) | exact sg_c2 (by omega) (by omega) (by first | assumption | exact Classical.not_not.1 (by assumption)) (by first | assumption | exact Classical.not_not.1 (by assumption)) (by first | assumption | exact Classical.not_not.1 (by assumption)) | (exfalso; omega) | exact absurd ‹¬ga s (k + 1) = 45› ‹¬¬ga s (k + 1) = 45›
        case hq12f1 => omega
        case hq12f2 => omega
        case hq12f3 => omega
     ·rintro a2 w2 ⟨sg, k1, M2, hle2, he2, S3, hsgr, hs1, hk1, hkl⟩
      clear S2
      refine nm_in he2 ?_
      clear he2 a2
      refine nm_thn ?_
      refine ws_seqN ReadPoly_n62 ReadPoly_n63 rfl rfl rfl ?_
      refine ws_region rfl ?_
      refine wlm 0 1 rfl rfl rfl rfl rfl rfl rfl ?_
      refine wlm 1 2 rfl rfl rfl rfl rfl rfl rfl ?_
      refine wlo 2 3 rfl rfl rfl (wo_cq rfl rfl rfl rfl rfl rfl rfl cf16 S3 (wholeAt_q s k1 hs2 (by omega) S3.lend) ?_)
      rintro _ w3 S4 rfl; clear S3
      obtain ⟨hwa76, hwb76, hwc76⟩ := wh_bd (s := s) (k := k1) (by omega)
      refine wlm 3 4 rfl rfl rfl rfl rfl rfl rfl ?_
      refine wlo 4 5 rfl rfl rfl (wo_run rfl rfl (run_extract rfl rfl rfl) ?_)
      refine wlo 5 6 rfl rfl rfl (wo_run rfl rfl (run_extract rfl rfl rfl) ?_)
      refine wla 6 7 rfl rfl rfl rfl rfl rfl rfl ?_
      refine wla 7 8 rfl rfl rfl rfl rfl rfl rfl ?_
      refine wl_end rfl ?_
      refine nm_sub [(0, _), (4, _), (5, _), (6, _), (7, _), (8, _)] ⟨rfl, rfl, rfl, rfl, rfl, rfl, trivial⟩ ?_
      refine nm_thn ?_
      refine ws_seqN ReadPoly_n64 ReadPoly_n65 rfl rfl rfl ?_
      refine ws_cut (fun ax_ wx_ => ∃ (cc : Int) (M3 : Hp), M2.le M3 ∧ Env 168 [(0, .string (sB s)), (4, vro), (5, .int .i64 (k1 : Int)), (6, .int .i64 sg), (7, .int .i64 cc), (8, .int .i64 ((wh s k1).2 : Int))] ax_ ∧ SH wx_ M3 X [Rs.row cdTm vro acc] ∧ coR s k1 = cc ∧ (0 ≤ cc ∧ cc < 10000000)) ?_ ?_
      ·refine ws_seqN ReadPoly_n66 ReadPoly_n67 rfl rfl rfl ?_
       refine ws_region rfl ?_
       refine wlm 0 1 rfl rfl rfl rfl rfl rfl rfl ?_
       refine wlm 1 2 rfl rfl rfl rfl rfl rfl rfl ?_
       refine wlo 2 3 rfl rfl rfl (wo_run rfl rfl (run_eql rfl rfl rfl) ?_)
       refine wl_end rfl ?_
       refine nm_sub [(0, _), (4, _), (5, _), (6, _), (7, _), (8, _), (81, _)] ⟨rfl, rfl, rfl, rfl, rfl, rfl, rfl, trivial⟩ ?_
       refine nm_thn ?_
       refine ws_condN ReadPoly_n68 ReadPoly_n69 rfl rfl rfl rfl (fun hb81 => ?_) (fun hb81 => ?_)
       ·replace hb81 := of_decide_eq_true hb81
        refine ws_region rfl ?_
        refine wla 0 1 rfl rfl rfl rfl rfl rfl rfl ?_
        refine wl_end rfl ?_
        refine nm_lp ?_
        intro ax_ hax_
        refine ⟨1, _, (Hp.le_refl _), hax_.sub ⟨rfl, rfl, rfl, rfl, rfl, rfl, trivial⟩, S4.pick [0] [_] (by decide) ⟨rfl, trivial⟩, ?hq13f0, ?hq13f1⟩
        case hq13f0 => first | exact co_1 (by omega) | exact co_w (by omega)
        case hq13f1 => omega
       ·replace hb81 := of_decide_eq_false hb81
        refine ws_skip rfl ?_
        refine nm_lp ?_
        intro ax_ hax_
        refine ⟨((wh s k1).1 : Int), _, (Hp.le_refl _), hax_.sub ⟨rfl, rfl, rfl, rfl, rfl, rfl, trivial⟩, S4.pick [0] [_] (by decide) ⟨rfl, trivial⟩, ?hq14f0, ?hq14f1⟩
        case hq14f0 => first | exact co_1 (by omega) | exact co_w (by omega)
        case hq14f1 => omega
      ·rintro a3 w4 ⟨cc, M3, hle3, he3, S5, hco, hcc⟩
       clear S4
       refine nm_in he3 ?_
       clear he3 a3
       refine nm_thn ?_
       refine ws_seqN ReadPoly_n70 ReadPoly_n71 rfl rfl rfl ?_
       have hsm := sgmul hs1 hcc
       refine ws_region rfl ?_
       refine wlm 0 1 rfl rfl rfl rfl rfl rfl rfl ?_
       refine wlm 1 2 rfl rfl rfl rfl rfl rfl rfl ?_
       refine wlo 2 3 rfl rfl rfl (wo_run rfl rfl (run_mul rfl rfl rfl (by first | omega | (simp only [lens]; omega))) ?_)
       refine wlo 3 4 rfl rfl rfl (wo_run rfl rfl (run_build (l := [_, _]) rfl rfl st38 rfl rfl) ?_)
       refine wlo 4 5 rfl rfl rfl (wo_alloc (l := [_, _]) rfl rfl rfl zr38 rfl S5 ?_)
       intro gb1 w5 S6; clear S5
       refine wlo 5 6 rfl rfl rfl (wo_storeB (i := 0) (us := [_, _]) (l' := [_, _]) (H' := [_, _]) rfl rfl S6 rfl rfl rfl rfl sz38 rfl rfl rfl rfl ?_)
       intro w6 S7; clear S6
       refine wl_end rfl ?_
       refine nm_sub [(0, _), (4, _), (5, _), (8, _), (9, _)] ⟨rfl, rfl, rfl, rfl, rfl, trivial⟩ ?_
       refine nm_thn ?_
       refine ws_seqN ReadPoly_n72 ReadPoly_n73 rfl rfl rfl ?_
       refine ws_region rfl ?_
       refine wlm 0 1 rfl rfl rfl rfl rfl rfl rfl ?_
       refine wla 1 2 rfl rfl rfl rfl rfl rfl rfl ?_
       refine wl_end rfl ?_
       refine nm_sub [(0, _), (4, _), (5, _), (9, _), (10, _)] ⟨rfl, rfl, rfl, rfl, rfl, trivial⟩ ?_
       refine nm_thn ?_
       refine ws_seqN ReadPoly_n74 ReadPoly_n75 rfl rfl rfl ?_
       refine ws_cut (fun ax_ wx_ => ∃ (q : Nat) (M4 : Hp), M3.le M4 ∧ Env 168 [(0, .string (sB s)), (4, vro), (5, .int .i64 (k1 : Int)), (9, .pointer (some ⟨gb1, 0, none⟩)), (10, .int .i64 (q : Int))] ax_ ∧ SH wx_ M4 X [Rs.box gb1 38 [.int .i64 0, .int .i64 (sg * cc)], Rs.row cdTm vro acc] ∧ stR s (wh s k1).2 = q ∧ (k1 ≤ q ∧ q ≤ s.length)) ?_ ?_
       ·refine ws_seqN ReadPoly_n76 ReadPoly_n77 rfl rfl rfl ?_
        refine ws_region rfl ?_
        refine wlm 0 1 rfl rfl rfl rfl rfl rfl rfl ?_
        refine wlm 1 2 rfl rfl rfl rfl rfl rfl rfl ?_
        refine wlo 2 3 rfl rfl rfl (wo_run rfl rfl (run_lenS rfl rfl rfl rfl rfl rfl Tryd.underlying9) ?_)
        refine wlo 3 4 rfl rfl rfl (wo_run rfl rfl (run_lss rfl rfl rfl) ?_)
        refine wlm 4 5 rfl rfl rfl rfl rfl rfl rfl ?_
        refine wl_split (t := 91) rfl (fun hg91 => ?_) (fun hg91 => ?_)
        ·replace hg91 := of_decide_eq_true hg91
         refine wl_opG (k := 5) (k' := 6) rfl rfl ⟨_, _, _, rfl, rfl, rfl, rfl⟩ rfl (wo_run rfl rfl (run_move rfl rfl) ?_)
         refine wl_opG (k := 6) (k' := 7) rfl rfl ⟨_, _, _, rfl, rfl, rfl, rfl⟩ rfl (wo_run rfl rfl (run_move rfl rfl) ?_)
         refine wl_opG (k := 7) (k' := 8) rfl rfl ⟨_, _, _, rfl, rfl, rfl, rfl⟩ rfl (wo_run rfl rfl (run_indexS ((wh s k1).2) rfl rfl rfl Tryd.underlying9 ((by first | omega | (simp only [lens]; omega)))) ?_)
         refine wl_opG (k := 8) (k' := 9) rfl rfl ⟨_, _, _, rfl, rfl, rfl, rfl⟩ rfl (wo_run rfl rfl (run_eqlB (p := (ga s ((wh s k1).2))) (q := 42) rfl rfl rfl) ?_)
         refine wlo 9 10 rfl rfl rfl (wo_run rfl rfl (run_pickT rfl rfl rfl) ?_)
         refine wl_end rfl ?_
         refine nm_sub [(0, _), (4, _), (5, _), (9, _), (10, _), (96, _)] ⟨rfl, rfl, rfl, rfl, rfl, rfl, trivial⟩ ?_
         refine nm_thn ?_
         refine ws_condN ReadPoly_n78 ReadPoly_n79 rfl rfl rfl rfl (fun hb96 => ?_) (fun hb96 => ?_)
         ·replace hb96 := of_decide_eq_true hb96
          refine ws_region rfl ?_
          refine wlm 0 1 rfl rfl rfl rfl rfl rfl rfl ?_
          refine wlo 1 2 rfl rfl rfl (wo_run rfl rfl (run_add rfl rfl rfl (by first | omega | (simp only [lens]; omega))) ?_)
          refine wla 2 3 rfl rfl rfl rfl rfl rfl rfl ?_
          refine wl_end rfl ?_
          refine nm_lp ?_
          intro ax_ hax_
          refine ⟨(wh s k1).2 + 1, _, (Hp.le_refl _), hax_.sub ⟨rfl, rfl, rfl, rfl, rfl, trivial⟩, S7.pick [0, 1] [_, _] (by decide) ⟨rfl, rfl, trivial⟩, ?hq15f0, ?hq15f1⟩
          case hq15f0 => first | exact st_n1 (by omega) | exact st_n2 (by assumption) | exact st_y (by omega) (by assumption)
          case hq15f1 => omega
         ·replace hb96 := of_decide_eq_false hb96
          refine ws_skip rfl ?_
          refine nm_lp ?_
          intro ax_ hax_
          refine ⟨(wh s k1).2, _, (Hp.le_refl _), hax_.sub ⟨rfl, rfl, rfl, rfl, rfl, trivial⟩, S7.pick [0, 1] [_, _] (by decide) ⟨rfl, rfl, trivial⟩, ?hq16f0, ?hq16f1⟩
          case hq16f0 => first | exact st_n1 (by omega) | exact st_n2 (by assumption) | exact st_y (by omega) (by assumption)
          case hq16f1 => omega
        ·replace hg91 := of_decide_eq_false hg91
         refine wl_no (k := 5) (k' := 6) (d := 92) rfl rfl ⟨_, _, _, rfl, rfl, rfl, rfl⟩ rfl rfl ?_
         refine wl_no (k := 6) (k' := 7) (d := 93) rfl rfl ⟨_, _, _, rfl, rfl, rfl, rfl⟩ rfl rfl ?_
         refine wl_no (k := 7) (k' := 8) (d := 94) rfl rfl ⟨_, _, _, rfl, rfl, rfl, rfl⟩ rfl rfl ?_
         refine wl_no (k := 8) (k' := 9) (d := 95) rfl rfl ⟨_, _, _, rfl, rfl, rfl, rfl⟩ rfl rfl ?_
         refine wlo 9 10 rfl rfl rfl (wo_run rfl rfl (run_pickF rfl rfl rfl) ?_)
         refine wl_end rfl ?_
         refine nm_sub [(0, _), (4, _), (5, _), (9, _), (10, _), (96, _)] ⟨rfl, rfl, rfl, rfl, rfl, rfl, trivial⟩ ?_
         refine nm_thn ?_
         refine ws_condFN ReadPoly_n79 rfl rfl rfl ?_
         refine ws_skip rfl ?_
         refine nm_lp ?_
         intro ax_ hax_
         refine ⟨(wh s k1).2, _, (Hp.le_refl _), hax_.sub ⟨rfl, rfl, rfl, rfl, rfl, trivial⟩, S7.pick [0, 1] [_, _] (by decide) ⟨rfl, rfl, trivial⟩, ?hq17f0, ?hq17f1⟩
         case hq17f0 => first | exact st_n1 (by omega) | exact st_n2 (by assumption) | exact st_y (by omega) (by assumption)
         case hq17f1 => omega
       ·rintro a4 w7 ⟨q, M4, hle4, he4, S8, hst, hq⟩
        clear S7
        refine nm_in he4 ?_
        clear he4 a4
        refine nm_thn ?_
        refine ws_seqN ReadPoly_n80 ReadPoly_n81 rfl rfl rfl ?_
        refine ws_cut (fun ax_ wx_ => ∃ (ee : Int) (j : Nat) (M5 : Hp), M4.le M5 ∧ Env 168 [(0, .string (sB s)), (4, vro), (5, .int .i64 (k1 : Int)), (9, .pointer (some ⟨gb1, 0, none⟩)), (10, .int .i64 (j : Int))] ax_ ∧ SH wx_ M5 X [Rs.box gb1 38 [.int .i64 ee, .int .i64 (sg * cc)], Rs.row cdTm vro acc] ∧ exR s q = (ee, j) ∧ (q ≤ j ∧ j ≤ s.length) ∧ (-10000000 < ee ∧ ee < 10000000)) ?_ ?_
        ·refine ws_seqN ReadPoly_n82 ReadPoly_n83 rfl rfl rfl ?_
         refine ws_region rfl ?_
         refine wlm 0 1 rfl rfl rfl rfl rfl rfl rfl ?_
         refine wlm 1 2 rfl rfl rfl rfl rfl rfl rfl ?_
         refine wlo 2 3 rfl rfl rfl (wo_run rfl rfl (run_lenS rfl rfl rfl rfl rfl rfl Tryd.underlying9) ?_)
         refine wlo 3 4 rfl rfl rfl (wo_run rfl rfl (run_lss rfl rfl rfl) ?_)
         refine wlm 4 5 rfl rfl rfl rfl rfl rfl rfl ?_
         refine wl_split (t := 103) rfl (fun hg103 => ?_) (fun hg103 => ?_)
         ·replace hg103 := of_decide_eq_true hg103
          refine wl_opG (k := 5) (k' := 6) rfl rfl ⟨_, _, _, rfl, rfl, rfl, rfl⟩ rfl (wo_run rfl rfl (run_move rfl rfl) ?_)
          refine wl_opG (k := 6) (k' := 7) rfl rfl ⟨_, _, _, rfl, rfl, rfl, rfl⟩ rfl (wo_run rfl rfl (run_move rfl rfl) ?_)
          refine wl_opG (k := 7) (k' := 8) rfl rfl ⟨_, _, _, rfl, rfl, rfl, rfl⟩ rfl (wo_run rfl rfl (run_indexS q rfl rfl rfl Tryd.underlying9 ((by first | omega | (simp only [lens]; omega)))) ?_)
          refine wl_opG (k := 8) (k' := 9) rfl rfl ⟨_, _, _, rfl, rfl, rfl, rfl⟩ rfl (wo_run rfl rfl (run_eqlB (p := (ga s q)) (q := 116) rfl rfl rfl) ?_)
          refine wlo 9 10 rfl rfl rfl (wo_run rfl rfl (run_pickT rfl rfl rfl) ?_)
          refine wl_end rfl ?_
          refine nm_sub [(0, _), (4, _), (5, _), (9, _), (10, _), (108, _)] ⟨rfl, rfl, rfl, rfl, rfl, rfl, trivial⟩ ?_
          refine nm_thn ?_
          refine ws_condN ReadPoly_n84 ReadPoly_n85 rfl rfl rfl rfl (fun hb108 => ?_) (fun hb108 => ?_)
          ·replace hb108 := of_decide_eq_true hb108
           refine ws_seqN ReadPoly_n86 ReadPoly_n87 rfl rfl rfl ?_
           refine ws_region rfl ?_
           refine wlo 0 1 rfl rfl rfl (wo_run rfl rfl (run_fieldAddr rfl rfl Tryd.underlying38 rfl (ce3) (nf3)) ?_)
           refine wlo 1 2 rfl rfl rfl (wo_storeB (i := 0) (us := [_]) (l' := [_, _]) (H' := [_, _]) rfl rfl S8 rfl rfl rfl rfl sz3 rfl rfl rfl rfl ?_)
           intro w9 S10; clear S8
           refine wl_end rfl ?_
           refine nm_sub [(0, _), (4, _), (5, _), (9, _), (10, _)] ⟨rfl, rfl, rfl, rfl, rfl, trivial⟩ ?_
           refine nm_thn ?_
           refine ws_seqN ReadPoly_n88 ReadPoly_n89 rfl rfl rfl ?_
           refine ws_region rfl ?_
           refine wlm 0 1 rfl rfl rfl rfl rfl rfl rfl ?_
           refine wlo 1 2 rfl rfl rfl (wo_run rfl rfl (run_add rfl rfl rfl (by first | omega | (simp only [lens]; omega))) ?_)
           refine wla 2 3 rfl rfl rfl rfl rfl rfl rfl ?_
           refine wl_end rfl ?_
           refine nm_sub [(0, _), (4, _), (5, _), (9, _), (10, _)] ⟨rfl, rfl, rfl, rfl, rfl, trivial⟩ ?_
           refine nm_thn ?_
           refine ws_seqN ReadPoly_n90 ReadPoly_n91 rfl rfl rfl ?_
           refine ws_eq 10 (.int .i64 ((q + 1 : Nat) : Int)) rfl (int_eq (by omega)) ?_
           refine ws_region rfl ?_
           refine wlm 0 1 rfl rfl rfl rfl rfl rfl rfl ?_
           refine wlm 1 2 rfl rfl rfl rfl rfl rfl rfl ?_
           refine wlo 2 3 rfl rfl rfl (wo_run rfl rfl (run_lenS rfl rfl rfl rfl rfl rfl Tryd.underlying9) ?_)
           refine wlo 3 4 rfl rfl rfl (wo_run rfl rfl (run_lss rfl rfl rfl) ?_)
           refine wlm 4 5 rfl rfl rfl rfl rfl rfl rfl ?_
           refine wl_split (t := 116) rfl (fun hg116 => ?_) (fun hg116 => ?_)
           ·replace hg116 := of_decide_eq_true hg116
            refine wl_opG (k := 5) (k' := 6) rfl rfl ⟨_, _, _, rfl, rfl, rfl, rfl⟩ rfl (wo_run rfl rfl (run_move rfl rfl) ?_)
            refine wl_opG (k := 6) (k' := 7) rfl rfl ⟨_, _, _, rfl, rfl, rfl, rfl⟩ rfl (wo_run rfl rfl (run_move rfl rfl) ?_)
            refine wl_opG (k := 7) (k' := 8) rfl rfl ⟨_, _, _, rfl, rfl, rfl, rfl⟩ rfl (wo_run rfl rfl (run_indexS (q + 1) rfl rfl rfl Tryd.underlying9 ((by first | omega | (simp only [lens]; omega)))) ?_)
            refine wl_opG (k := 8) (k' := 9) rfl rfl ⟨_, _, _, rfl, rfl, rfl, rfl⟩ rfl (wo_run rfl rfl (run_eqlB (p := (ga s (q + 1))) (q := 94) rfl rfl rfl) ?_)
            refine wlo 9 10 rfl rfl rfl (wo_run rfl rfl (run_pickT rfl rfl rfl) ?_)
            refine wl_end rfl ?_
            refine nm_sub [(0, _), (4, _), (5, _), (9, _), (10, _), (121, _)] ⟨rfl, rfl, rfl, rfl, rfl, rfl, trivial⟩ ?_
            refine nm_thn ?_
            refine ws_condN ReadPoly_n92 ReadPoly_n93 rfl rfl rfl rfl (fun hb121 => ?_) (fun hb121 => ?_)
            ·replace hb121 := of_decide_eq_true hb121
             refine ws_seqN ReadPoly_n94 ReadPoly_n95 rfl rfl rfl ?_
             refine ws_region rfl ?_
             refine wlm 0 1 rfl rfl rfl rfl rfl rfl rfl ?_
             refine wlo 1 2 rfl rfl rfl (wo_run rfl rfl (run_add rfl rfl rfl (by first | omega | (simp only [lens]; omega))) ?_)
             refine wla 2 3 rfl rfl rfl rfl rfl rfl rfl ?_
             refine wl_end rfl ?_
             refine nm_sub [(0, _), (4, _), (5, _), (9, _), (10, _)] ⟨rfl, rfl, rfl, rfl, rfl, trivial⟩ ?_
             refine nm_thn ?_
             refine ws_seqN ReadPoly_n96 ReadPoly_n97 rfl rfl rfl ?_
             refine ws_eq 10 (.int .i64 ((q + 2 : Nat) : Int)) rfl (int_eq (by omega)) ?_
             refine ws_region rfl ?_
             refine wlm 0 1 rfl rfl rfl rfl rfl rfl rfl ?_
             refine wlm 1 2 rfl rfl rfl rfl rfl rfl rfl ?_
             refine wlo 2 3 rfl rfl rfl (wo_run rfl rfl (run_lenS rfl rfl rfl rfl rfl rfl Tryd.underlying9) ?_)
             refine wlo 3 4 rfl rfl rfl (wo_run rfl rfl (run_lss rfl rfl rfl) ?_)
             refine wlm 4 5 rfl rfl rfl rfl rfl rfl rfl ?_
             refine wl_split (t := 128) rfl (fun hg128 => ?_) (fun hg128 => ?_)
             ·replace hg128 := of_decide_eq_true hg128
              refine wl_opG (k := 5) (k' := 6) rfl rfl ⟨_, _, _, rfl, rfl, rfl, rfl⟩ rfl (wo_run rfl rfl (run_move rfl rfl) ?_)
              refine wl_opG (k := 6) (k' := 7) rfl rfl ⟨_, _, _, rfl, rfl, rfl, rfl⟩ rfl (wo_run rfl rfl (run_move rfl rfl) ?_)
              refine wl_opG (k := 7) (k' := 8) rfl rfl ⟨_, _, _, rfl, rfl, rfl, rfl⟩ rfl (wo_run rfl rfl (run_indexS (q + 2) rfl rfl rfl Tryd.underlying9 ((by first | omega | (simp only [lens]; omega)))) ?_)
              refine wl_opG (k := 8) (k' := 9) rfl rfl ⟨_, _, _, rfl, rfl, rfl, rfl⟩ rfl (wo_run rfl rfl (run_eqlB (p := (ga s (q + 2))) (q := 45) rfl rfl rfl) ?_)
              refine wlo 9 10 rfl rfl rfl (wo_run rfl rfl (run_pickT rfl rfl rfl) ?_)
              refine wla 10 11 rfl rfl rfl rfl rfl rfl rfl ?_
              refine wl_end rfl ?_
              refine nm_sub [(0, _), (4, _), (5, _), (9, _), (10, _), (11, _)] ⟨rfl, rfl, rfl, rfl, rfl, rfl, trivial⟩ ?_
              refine nm_thn ?_
              refine ws_seqN ReadPoly_n98 ReadPoly_n99 rfl rfl rfl ?_
              refine ws_seqN ReadPoly_n100 ReadPoly_n101 rfl rfl rfl ?_
              refine ws_region rfl ?_
              refine wlm 0 1 rfl rfl rfl rfl rfl rfl rfl ?_
              refine wl_end rfl ?_
              refine nm_thn ?_
              refine ws_condN ReadPoly_n102 ReadPoly_n103 rfl rfl rfl rfl (fun hb134 => ?_) (fun hb134 => ?_)
              ·replace hb134 := of_decide_eq_true hb134
               refine ws_region rfl ?_
               refine wlm 0 1 rfl rfl rfl rfl rfl rfl rfl ?_
               refine wlo 1 2 rfl rfl rfl (wo_run rfl rfl (run_add rfl rfl rfl (by first | omega | (simp only [lens]; omega))) ?_)
               refine wla 2 3 rfl rfl rfl rfl rfl rfl rfl ?_
               refine wl_end rfl ?_
               refine nm_sub [(0, _), (4, _), (5, _), (9, _), (10, _), (11, _)] ⟨rfl, rfl, rfl, rfl, rfl, rfl, trivial⟩ ?_
               refine nm_thn ?_
               refine ws_seqN ReadPoly_n104 ReadPoly_n105 rfl rfl rfl ?_
               refine ws_eq 10 (.int .i64 ((q + 3 : Nat) : Int)) rfl (int_eq (by omega)) ?_
               refine ws_region rfl ?_
               refine wlm 0 1 rfl rfl rfl rfl rfl rfl rfl ?_
               refine wlm 1 2 rfl rfl rfl rfl rfl rfl rfl ?_
               refine wlo 2 3 rfl rfl rfl (wo_cq rfl rfl rfl rfl rfl rfl rfl cf16 S10 (wholeAt_q s (q + 3) hs2 (by omega) S10.lend) ?_)
               rintro _ w10 S11 rfl; clear S10
               obtain ⟨hwa140, hwb140, hwc140⟩ := wh_bd (s := s) (k := q + 3) (by omega)
               refine wlm 3 4 rfl rfl rfl rfl rfl rfl rfl ?_
               refine wlo 4 5 rfl rfl rfl (wo_run rfl rfl (run_extract rfl rfl rfl) ?_)
               refine wlo 5 6 rfl rfl rfl (wo_run rfl rfl (run_extract rfl rfl rfl) ?_)
               refine wla 6 7 rfl rfl rfl rfl rfl rfl rfl ?_
               refine wla 7 8 rfl rfl rfl rfl rfl rfl rfl ?_
               refine wl_end rfl ?_
               refine nm_sub [(0, _), (4, _), (5, _), (9, _), (11, _), (12, _), (13, _)] ⟨rfl, rfl, rfl, rfl, rfl, rfl, rfl, trivial⟩ ?_
               refine nm_thn ?_
               refine ws_seqN ReadPoly_n106 ReadPoly_n107 rfl rfl rfl ?_
               refine ws_region rfl ?_
               refine wlm 0 1 rfl rfl rfl rfl rfl rfl rfl ?_
               refine wlo 1 2 rfl rfl rfl (wo_run rfl rfl (run_fieldAddr rfl rfl Tryd.underlying38 rfl (ce3) (nf3)) ?_)
               refine wlo 2 3 rfl rfl rfl (wo_storeB (i := 0) (us := [_]) (l' := [_, _]) (H' := [_, _]) rfl rfl S11 rfl rfl rfl rfl sz3 rfl rfl rfl rfl ?_)
               intro w11 S12; clear S11
               refine wl_end rfl ?_
               refine nm_sub [(0, _), (4, _), (5, _), (9, _), (11, _), (12, _), (13, _)] ⟨rfl, rfl, rfl, rfl, rfl, rfl, rfl, trivial⟩ ?_
               refine nm_thn ?_
               refine ws_seqN ReadPoly_n108 ReadPoly_n109 rfl rfl rfl ?_
               refine ws_seqN ReadPoly_n110 ReadPoly_n111 rfl rfl rfl ?_
               refine ws_region rfl ?_
               refine wlm 0 1 rfl rfl rfl rfl rfl rfl rfl ?_
               refine wl_end rfl ?_
               refine nm_sub [(0, _), (4, _), (5, _), (9, _), (12, _), (13, _), (145, _)] ⟨rfl, rfl, rfl, rfl, rfl, rfl, rfl, trivial⟩ ?_
               refine nm_thn ?_
               refine ws_condN ReadPoly_n112 ReadPoly_n113 rfl rfl rfl rfl (fun hb145 => ?_) (fun hb145 => ?_)
               ·replace hb145 := of_decide_eq_true hb145
                refine ws_region rfl ?_
                refine wlm 0 1 rfl rfl rfl rfl rfl rfl rfl ?_
                refine wlo 1 2 rfl rfl rfl (wo_run rfl rfl (run_neg rfl rfl (by first | omega | (simp only [lens]; omega))) ?_)
                refine wlo 2 3 rfl rfl rfl (wo_run rfl rfl (run_fieldAddr rfl rfl Tryd.underlying38 rfl (ce3) (nf3)) ?_)
                refine wlo 3 4 rfl rfl rfl (wo_storeB (i := 0) (us := [_]) (l' := [_, _]) (H' := [_, _]) rfl rfl S12 rfl rfl rfl rfl sz3 rfl rfl rfl rfl ?_)
                intro w12 S13; clear S12
                refine wl_end rfl ?_
                refine nm_sub [(0, _), (4, _), (5, _), (9, _), (13, _)] ⟨rfl, rfl, rfl, rfl, rfl, trivial⟩ ?_
                refine nm_thn ?_
                refine ws_region rfl ?_
                refine wlm 0 1 rfl rfl rfl rfl rfl rfl rfl ?_
                refine wla 1 2 rfl rfl rfl rfl rfl rfl rfl ?_
                refine wl_end rfl ?_
                refine nm_lp ?_
                intro ax_ hax_
                refine ⟨-((wh s (q + 3)).1 : Int), (wh s (q + 3)).2, _, (Hp.le_refl _), hax_.sub ⟨rfl, rfl, rfl, rfl, rfl, trivial⟩, S13.pick [0, 1] [_, _] (by decide) ⟨rfl, rfl, trivial⟩, ?hq18f0, ?hq18f1, ?hq18f2⟩
                case hq18f0 => first | exact ex_n1 (by omega) | exact ex_n2 (by assumption) | exact ex_t1 (by omega) (by assumption) (by omega) | exact ex_t2 (by omega) (by assumption) (by assumption) | exact ex_p (by omega) (by assumption) (by omega) (by assumption) (by first | exact .inl (by omega) | exact .inr (by assumption)) | exact ex_m (by omega) (by assumption) (by omega) (by assumption) (by omega) (by assumption)
                case hq18f1 => omega
                case hq18f2 => omega
               ·replace hb145 := of_decide_eq_false hb145
                exfalso; first | contradiction | omega
              ·replace hb134 := of_decide_eq_false hb134
               refine ws_skip rfl ?_
               refine nm_sub [(0, _), (4, _), (5, _), (9, _), (10, _), (11, _)] ⟨rfl, rfl, rfl, rfl, rfl, rfl, trivial⟩ ?_
               refine nm_thn ?_
               refine ws_seqN ReadPoly_n104 ReadPoly_n105 rfl rfl rfl ?_
               refine ws_eq 10 (.int .i64 ((q + 2 : Nat) : Int)) rfl (int_eq (by omega)) ?_
               refine ws_region rfl ?_
               refine wlm 0 1 rfl rfl rfl rfl rfl rfl rfl ?_
               refine wlm 1 2 rfl rfl rfl rfl rfl rfl rfl ?_
               refine wlo 2 3 rfl rfl rfl (wo_cq rfl rfl rfl rfl rfl rfl rfl cf16 S10 (wholeAt_q s (q + 2) hs2 (by omega) S10.lend) ?_)
               rintro _ w13 S14 rfl; clear S10
               obtain ⟨hwa140, hwb140, hwc140⟩ := wh_bd (s := s) (k := q + 2) (by omega)
               refine wlm 3 4 rfl rfl rfl rfl rfl rfl rfl ?_
               refine wlo 4 5 rfl rfl rfl (wo_run rfl rfl (run_extract rfl rfl rfl) ?_)
               refine wlo 5 6 rfl rfl rfl (wo_run rfl rfl (run_extract rfl rfl rfl) ?_)
               refine wla 6 7 rfl rfl rfl rfl rfl rfl rfl ?_
               refine wla 7 8 rfl rfl rfl rfl rfl rfl rfl ?_
               refine wl_end rfl ?_
               refine nm_sub [(0, _), (4, _), (5, _), (9, _), (11, _), (12, _), (13, _)] ⟨rfl, rfl, rfl, rfl, rfl, rfl, rfl, trivial⟩ ?_
               refine nm_thn ?_
               refine ws_seqN ReadPoly_n106 ReadPoly_n107 rfl rfl rfl ?_
               refine ws_region rfl ?_
               refine wlm 0 1 rfl rfl rfl rfl rfl rfl rfl ?_
               refine wlo 1 2 rfl rfl rfl (wo_run rfl rfl (run_fieldAddr rfl rfl Tryd.underlying38 rfl (ce3) (nf3)) ?_)
               refine wlo 2 3 rfl rfl rfl (wo_storeB (i := 0) (us := [_]) (l' := [_, _]) (H' := [_, _]) rfl rfl S14 rfl rfl rfl rfl sz3 rfl rfl rfl rfl ?_)
               intro w14 S15; clear S14
               refine wl_end rfl ?_
               refine nm_sub [(0, _), (4, _), (5, _), (9, _), (11, _), (12, _), (13, _)] ⟨rfl, rfl, rfl, rfl, rfl, rfl, rfl, trivial⟩ ?_
               refine nm_thn ?_
               refine ws_seqN ReadPoly_n108 ReadPoly_n109 rfl rfl rfl ?_
               refine ws_seqN ReadPoly_n110 ReadPoly_n111 rfl rfl rfl ?_
               refine ws_region rfl ?_
               refine wlm 0 1 rfl rfl rfl rfl rfl rfl rfl ?_
               refine wl_end rfl ?_
               refine nm_sub [(0, _), (4, _), (5, _), (9, _), (12, _), (13, _), (145, _)] ⟨rfl, rfl, rfl, rfl, rfl, rfl, rfl, trivial⟩ ?_
               refine nm_thn ?_
               refine ws_condN ReadPoly_n112 ReadPoly_n113 rfl rfl rfl rfl (fun hb145 => ?_) (fun hb145 => ?_)
               ·replace hb145 := of_decide_eq_true hb145
                exfalso; first | contradiction | omega
               ·replace hb145 := of_decide_eq_false hb145
                refine ws_skip rfl ?_
                refine nm_sub [(0, _), (4, _), (5, _), (9, _), (13, _)] ⟨rfl, rfl, rfl, rfl, rfl, trivial⟩ ?_
                refine nm_thn ?_
                refine ws_region rfl ?_
                refine wlm 0 1 rfl rfl rfl rfl rfl rfl rfl ?_
                refine wla 1 2 rfl rfl rfl rfl rfl rfl rfl ?_
                refine wl_end rfl ?_
                refine nm_lp ?_
                intro ax_ hax_
                refine ⟨((wh s (q + 2)).1 : Int), (wh s (q + 2)).2, _, (Hp.le_refl _), hax_.sub ⟨rfl, rfl, rfl, rfl, rfl, trivial⟩, S15.pick [0, 1] [_, _] (by decide) ⟨rfl, rfl, trivial⟩, ?hq19f0, ?hq19f1, ?hq19f2⟩
                case hq19f0 => first | exact ex_n1 (by omega) | exact ex_n2 (by assumption) | exact ex_t1 (by omega) (by assumption) (by omega) | exact ex_t2 (by omega) (by assumption) (by assumption) | exact ex_p (by omega) (by assumption) (by omega) (by assumption) (by first | exact .inl (by omega) | exact .inr (by assumption)) | exact ex_m (by omega) (by assumption) (by omega) (by assumption) (by omega) (by assumption)
                case hq19f1 => omega
                case hq19f2 => omega
             ·replace hg128 := of_decide_eq_false hg128
              refine wl_no (k := 5) (k' := 6) (d := 129) rfl rfl ⟨_, _, _, rfl, rfl, rfl, rfl⟩ rfl rfl ?_
              refine wl_no (k := 6) (k' := 7) (d := 130) rfl rfl ⟨_, _, _, rfl, rfl, rfl, rfl⟩ rfl rfl ?_
              refine wl_no (k := 7) (k' := 8) (d := 131) rfl rfl ⟨_, _, _, rfl, rfl, rfl, rfl⟩ rfl rfl ?_
              refine wl_no (k := 8) (k' := 9) (d := 132) rfl rfl ⟨_, _, _, rfl, rfl, rfl, rfl⟩ rfl rfl ?_
              refine wlo 9 10 rfl rfl rfl (wo_run rfl rfl (run_pickF rfl rfl rfl) ?_)
              refine wla 10 11 rfl rfl rfl rfl rfl rfl rfl ?_
              refine wl_end rfl ?_
              refine nm_sub [(0, _), (4, _), (5, _), (9, _), (10, _), (11, _)] ⟨rfl, rfl, rfl, rfl, rfl, rfl, trivial⟩ ?_
              refine nm_thn ?_
              refine ws_seqN ReadPoly_n98 ReadPoly_n99 rfl rfl rfl ?_
              refine ws_seqN ReadPoly_n100 ReadPoly_n101 rfl rfl rfl ?_
              refine ws_region rfl ?_
              refine wlm 0 1 rfl rfl rfl rfl rfl rfl rfl ?_
              refine wl_end rfl ?_
              refine nm_thn ?_
              refine ws_condFN ReadPoly_n103 rfl rfl rfl ?_
              refine ws_skip rfl ?_
              refine nm_sub [(0, _), (4, _), (5, _), (9, _), (10, _), (11, _)] ⟨rfl, rfl, rfl, rfl, rfl, rfl, trivial⟩ ?_
              refine nm_thn ?_
              refine ws_seqN ReadPoly_n104 ReadPoly_n105 rfl rfl rfl ?_
              refine ws_eq 10 (.int .i64 ((q + 2 : Nat) : Int)) rfl (int_eq (by omega)) ?_
              refine ws_region rfl ?_
              refine wlm 0 1 rfl rfl rfl rfl rfl rfl rfl ?_
              refine wlm 1 2 rfl rfl rfl rfl rfl rfl rfl ?_
              refine wlo 2 3 rfl rfl rfl (wo_cq rfl rfl rfl rfl rfl rfl rfl cf16 S10 (wholeAt_q s (q + 2) hs2 (by omega) S10.lend) ?_)
              rintro _ w15 S16 rfl; clear S10
              obtain ⟨hwa140, hwb140, hwc140⟩ := wh_bd (s := s) (k := q + 2) (by omega)
              refine wlm 3 4 rfl rfl rfl rfl rfl rfl rfl ?_
              refine wlo 4 5 rfl rfl rfl (wo_run rfl rfl (run_extract rfl rfl rfl) ?_)
              refine wlo 5 6 rfl rfl rfl (wo_run rfl rfl (run_extract rfl rfl rfl) ?_)
              refine wla 6 7 rfl rfl rfl rfl rfl rfl rfl ?_
              refine wla 7 8 rfl rfl rfl rfl rfl rfl rfl ?_
              refine wl_end rfl ?_
              refine nm_sub [(0, _), (4, _), (5, _), (9, _), (11, _), (12, _), (13, _)] ⟨rfl, rfl, rfl, rfl, rfl, rfl, rfl, trivial⟩ ?_
              refine nm_thn ?_
              refine ws_seqN ReadPoly_n106 ReadPoly_n107 rfl rfl rfl ?_
              refine ws_region rfl ?_
              refine wlm 0 1 rfl rfl rfl rfl rfl rfl rfl ?_
              refine wlo 1 2 rfl rfl rfl (wo_run rfl rfl (run_fieldAddr rfl rfl Tryd.underlying38 rfl (ce3) (nf3)) ?_)
              refine wlo 2 3 rfl rfl rfl (wo_storeB (i := 0) (us := [_]) (l' := [_, _]) (H' := [_, _]) rfl rfl S16 rfl rfl rfl rfl sz3 rfl rfl rfl rfl ?_)
              intro w16 S17; clear S16
              refine wl_end rfl ?_
              refine nm_sub [(0, _), (4, _), (5, _), (9, _), (11, _), (12, _), (13, _)] ⟨rfl, rfl, rfl, rfl, rfl, rfl, rfl, trivial⟩ ?_
              refine nm_thn ?_
              refine ws_seqN ReadPoly_n108 ReadPoly_n109 rfl rfl rfl ?_
              refine ws_seqN ReadPoly_n110 ReadPoly_n111 rfl rfl rfl ?_
              refine ws_region rfl ?_
              refine wlm 0 1 rfl rfl rfl rfl rfl rfl rfl ?_
              refine wl_end rfl ?_
              refine nm_sub [(0, _), (4, _), (5, _), (9, _), (12, _), (13, _), (145, _)] ⟨rfl, rfl, rfl, rfl, rfl, rfl, rfl, trivial⟩ ?_
              refine nm_thn ?_
              refine ws_condFN ReadPoly_n113 rfl rfl rfl ?_
              refine ws_skip rfl ?_
              refine nm_sub [(0, _), (4, _), (5, _), (9, _), (13, _)] ⟨rfl, rfl, rfl, rfl, rfl, trivial⟩ ?_
              refine nm_thn ?_
              refine ws_region rfl ?_
              refine wlm 0 1 rfl rfl rfl rfl rfl rfl rfl ?_
              refine wla 1 2 rfl rfl rfl rfl rfl rfl rfl ?_
              refine wl_end rfl ?_
              refine nm_lp ?_
              intro ax_ hax_
              refine ⟨((wh s (q + 2)).1 : Int), (wh s (q + 2)).2, _, (Hp.le_refl _), hax_.sub ⟨rfl, rfl, rfl, rfl, rfl, trivial⟩, S17.pick [0, 1] [_, _] (by decide) ⟨rfl, rfl, trivial⟩, ?hq20f0, ?hq20f1, ?hq20f2⟩
              case hq20f0 => first | exact ex_n1 (by omega) | exact ex_n2 (by assumption) | exact ex_t1 (by omega) (by assumption) (by omega) | exact ex_t2 (by omega) (by assumption) (by assumption) | exact ex_p (by omega) (by assumption) (by omega) (by assumption) (by first | exact .inl (by omega) | exact .inr (by assumption)) | exact ex_m (by omega) (by assumption) (by omega) (by assumption) (by omega) (by assumption)
              case hq20f1 => omega
              case hq20f2 => omega
            ·replace hb121 := of_decide_eq_false hb121
             refine ws_skip rfl ?_
             refine nm_lp ?_
             intro ax_ hax_
             refine ⟨1, q + 1, _, (Hp.le_refl _), hax_.sub ⟨rfl, rfl, rfl, rfl, rfl, trivial⟩, S10.pick [0, 1] [_, _] (by decide) ⟨rfl, rfl, trivial⟩, ?hq21f0, ?hq21f1, ?hq21f2⟩
             case hq21f0 => first | exact ex_n1 (by omega) | exact ex_n2 (by assumption) | exact ex_t1 (by omega) (by assumption) (by omega) | exact ex_t2 (by omega) (by assumption) (by assumption) | exact ex_p (by omega) (by assumption) (by omega) (by assumption) (by first | exact .inl (by omega) | exact .inr (by assumption)) | exact ex_m (by omega) (by assumption) (by omega) (by assumption) (by omega) (by assumption)
             case hq21f1 => omega
             case hq21f2 => omega
           ·replace hg116 := of_decide_eq_false hg116
            refine wl_no (k := 5) (k' := 6) (d := 117) rfl rfl ⟨_, _, _, rfl, rfl, rfl, rfl⟩ rfl rfl ?_
            refine wl_no (k := 6) (k' := 7) (d := 118) rfl rfl ⟨_, _, _, rfl, rfl, rfl, rfl⟩ rfl rfl ?_
            refine wl_no (k := 7) (k' := 8) (d := 119) rfl rfl ⟨_, _, _, rfl, rfl, rfl, rfl⟩ rfl rfl ?_
            refine wl_no (k := 8) (k' := 9) (d := 120) rfl rfl ⟨_, _, _, rfl, rfl, rfl, rfl⟩ rfl rfl ?_
            refine wlo 9 10 rfl rfl rfl (wo_run rfl rfl (run_pickF rfl rfl rfl) ?_)
            refine wl_end rfl ?_
            refine nm_sub [(0, _), (4, _), (5, _), (9, _), (10, _), (121, _)] ⟨rfl, rfl, rfl, rfl, rfl, rfl, trivial⟩ ?_
            refine nm_thn ?_
            refine ws_condFN ReadPoly_n93 rfl rfl rfl ?_
            refine ws_skip rfl ?_
            refine nm_lp ?_
            intro ax_ hax_
            refine ⟨1, q + 1, _, (Hp.le_refl _), hax_.sub ⟨rfl, rfl, rfl, rfl, rfl, trivial⟩, S10.pick [0, 1] [_, _] (by decide) ⟨rfl, rfl, trivial⟩, ?hq22f0, ?hq22f1, ?hq22f2⟩
            case hq22f0 => first | exact ex_n1 (by omega) | exact ex_n2 (by assumption) | exact ex_t1 (by omega) (by assumption) (by omega) | exact ex_t2 (by omega) (by assumption) (by assumption) | exact ex_p (by omega) (by assumption) (by omega) (by assumption) (by first | exact .inl (by omega) | exact .inr (by assumption)) | exact ex_m (by omega) (by assumption) (by omega) (by assumption) (by omega) (by assumption)
            case hq22f1 => omega
            case hq22f2 => omega
          ·replace hb108 := of_decide_eq_false hb108
           refine ws_skip rfl ?_
           refine nm_lp ?_
           intro ax_ hax_
           refine ⟨0, q, _, (Hp.le_refl _), hax_.sub ⟨rfl, rfl, rfl, rfl, rfl, trivial⟩, S8.pick [0, 1] [_, _] (by decide) ⟨rfl, rfl, trivial⟩, ?hq23f0, ?hq23f1, ?hq23f2⟩
           case hq23f0 => first | exact ex_n1 (by omega) | exact ex_n2 (by assumption) | exact ex_t1 (by omega) (by assumption) (by omega) | exact ex_t2 (by omega) (by assumption) (by assumption) | exact ex_p (by omega) (by assumption) (by omega) (by assumption) (by first | exact .inl (by omega) | exact .inr (by assumption)) | exact ex_m (by omega) (by assumption) (by omega) (by assumption) (by omega) (by assumption)
           case hq23f1 => omega
           case hq23f2 => omega
         ·replace hg103 := of_decide_eq_false hg103
          refine wl_no (k := 5) (k' := 6) (d := 104) rfl rfl ⟨_, _, _, rfl, rfl, rfl, rfl⟩ rfl rfl ?_
          refine wl_no (k := 6) (k' := 7) (d := 105) rfl rfl ⟨_, _, _, rfl, rfl, rfl, rfl⟩ rfl rfl ?_
          refine wl_no (k := 7) (k' := 8) (d := 106) rfl rfl ⟨_, _, _, rfl, rfl, rfl, rfl⟩ rfl rfl ?_
          refine wl_no (k := 8) (k' := 9) (d := 107) rfl rfl ⟨_, _, _, rfl, rfl, rfl, rfl⟩ rfl rfl ?_
          refine wlo 9 10 rfl rfl rfl (wo_run rfl rfl (run_pickF rfl rfl rfl) ?_)
          refine wl_end rfl ?_
          refine nm_sub [(0, _), (4, _), (5, _), (9, _), (10, _), (108, _)] ⟨rfl, rfl, rfl, rfl, rfl, rfl, trivial⟩ ?_
          refine nm_thn ?_
          refine ws_condFN ReadPoly_n85 rfl rfl rfl ?_
          refine ws_skip rfl ?_
          refine nm_lp ?_
          intro ax_ hax_
          refine ⟨0, q, _, (Hp.le_refl _), hax_.sub ⟨rfl, rfl, rfl, rfl, rfl, trivial⟩, S8.pick [0, 1] [_, _] (by decide) ⟨rfl, rfl, trivial⟩, ?hq24f0, ?hq24f1, ?hq24f2⟩
          case hq24f0 => first | exact ex_n1 (by omega) | exact ex_n2 (by assumption) | exact ex_t1 (by omega) (by assumption) (by omega) | exact ex_t2 (by omega) (by assumption) (by assumption) | exact ex_p (by omega) (by assumption) (by omega) (by assumption) (by first | exact .inl (by omega) | exact .inr (by assumption)) | exact ex_m (by omega) (by assumption) (by omega) (by assumption) (by omega) (by assumption)
          case hq24f1 => omega
          case hq24f2 => omega
        ·rintro a5 w8 ⟨ee, j, M5, hle5, he5, S9, hex, hj, hee⟩
         clear S8
         refine nm_in he5 ?_
         clear he5 a5
         refine nm_thn ?_
         refine ws_seqN ReadPoly_n114 ReadPoly_n115 rfl rfl rfl ?_
         refine ws_seqN ReadPoly_n116 ReadPoly_n117 rfl rfl rfl ?_
         refine ws_region rfl ?_
         refine wlm 0 1 rfl rfl rfl rfl rfl rfl rfl ?_
         refine wlm 1 2 rfl rfl rfl rfl rfl rfl rfl ?_
         refine wlo 2 3 rfl rfl rfl (wo_run rfl rfl (run_eql rfl rfl rfl) ?_)
         refine wl_end rfl ?_
         refine nm_sub [(0, _), (4, _), (9, _), (10, _), (152, _)] ⟨rfl, rfl, rfl, rfl, rfl, trivial⟩ ?_
         refine nm_thn ?_
         refine ws_condN ReadPoly_n118 ReadPoly_n119 rfl rfl rfl rfl (fun hb152 => ?_) (fun hb152 => ?_)
         ·replace hb152 := of_decide_eq_true hb152
          refine ws_seqN ReadPoly_n120 ReadPoly_n121 rfl rfl rfl ?_
          refine ws_region rfl ?_
          refine wla 0 1 rfl rfl rfl rfl rfl rfl rfl ?_
          refine wla 1 2 rfl rfl rfl rfl rfl rfl rfl ?_
          refine wl_end rfl ?_
          refine nm_sub [(2, _), (3, _)] ⟨rfl, rfl, trivial⟩ ?_
          refine nm_thn ?_
          refine ws_ret hC [_, _] rfl rfl ⟨rfl, rfl, trivial⟩ ?_
          refine ⟨_, rfl, _, (((hle1.trans hle2).trans hle3).trans hle4).trans hle5, (S9.pick [] [] (by decide) trivial), ?_⟩
          refine TE.of (p := ([], 1)) ⟨_, _, rfl, RdA.nil_⟩ ?_
          unfold pieceR
          rw [if_neg (by omega), if_neg (by assumption)]
          have hrr : runR s s.length 0 [] = none := by rw [← hrn]; exact runR_no hkl hf ((step_of hsgr).trans (bdR_none hst hex (by omega)))
          unfold refR
          rw [hrr]
         ·replace hb152 := of_decide_eq_false hb152
          refine ws_skip rfl ?_
          refine nm_sub [(0, _), (4, _), (9, _), (10, _)] ⟨rfl, rfl, rfl, rfl, trivial⟩ ?_
          refine nm_thn ?_
          refine ws_seqN ReadPoly_n122 ReadPoly_n123 rfl rfl rfl ?_
          refine ws_region rfl ?_
          refine wlm 0 1 rfl rfl rfl rfl rfl rfl rfl ?_
          refine wlo 1 2 rfl rfl rfl (wo_run rfl rfl (run_loadN (us := [_, _]) rfl rfl Tryd.underlying38 rfl sz38 (S9.boxcs (i := 0) rfl ⟨rfl, rfl, trivial⟩)) ?_)
          refine wlo 2 3 rfl rfl rfl (wo_buildSlice1 (C := cdTm) (l := [_, _]) rfl rfl rfl rfl sl22 rfl rfl rfl rfl S9 ?_)
          intro gb2 w17 S18; clear S9
          refine wlo 3 4 rfl rfl rfl (wo_append1 (C := cdTm) (i := 2) (q := 0) (⟨ee, sg * cc⟩ : Tm) rfl rfl rfl rfl rfl rfl rfl rfl sl22 S18 rfl rfl rfl (by show (_ + 1) * 16 ≤ _; first | omega | (simp only [lens]; omega)) ?_)
          intro vro1 w18 S19; clear S18
          have S20 := S19.pick [1, 2] [_, _] (by decide) ⟨rfl, rfl, trivial⟩; clear S19
          refine wla 4 5 rfl rfl rfl rfl rfl rfl rfl ?_
          refine wl_end rfl ?_
          refine nm_sub [(0, _), (4, _), (10, _)] ⟨rfl, rfl, rfl, trivial⟩ ?_
          refine nm_thn ?_
          refine ws_region rfl ?_
          refine wlm 0 1 rfl rfl rfl rfl rfl rfl rfl ?_
          refine wla 1 2 rfl rfl rfl rfl rfl rfl rfl ?_
          refine wl_end rfl ?_
          refine nm_blk ?_
          refine nm_lp ?_
          intro ax_ hax_
          refine ⟨_, ?hq25m, ⟨j, (f - 1), _, _, _, ((((hle1.trans hle2).trans hle3).trans hle4).trans hle5), rfl, hax_.sub ⟨rfl, rfl, rfl, trivial⟩, S20.pick [1] [_] (by decide) ⟨rfl, trivial⟩, ?hq25f0, ?hq25f1, ?hq25f2, ?hq25f3⟩⟩
          case hq25f0 => (rw [← hrn]; exact (runR_go hkl hf ((step_of hsgr).trans (bdR_some hst hex hco (by omega)))).symm)
          case hq25f1 => omega
          case hq25f2 => omega
          case hq25f3 => (rw [List.length_append]; simp only [List.length_cons, List.length_nil]; omega)
          case hq25m => omega
    ·replace hb22 := of_decide_eq_false hb22
     refine ws_exit rfl rfl ?_
     refine nm_sub [(0, _), (4, _)] ⟨rfl, rfl, trivial⟩ ?_
     refine nm_thn ?_
     refine ws_seqN ReadPoly_n124 ReadPoly_n125 rfl rfl rfl ?_
     refine ws_seqN ReadPoly_n126 ReadPoly_n127 rfl rfl rfl ?_
     refine ws_region rfl ?_
     refine wlm 0 1 rfl rfl rfl rfl rfl rfl rfl ?_
     obtain ⟨A1, c1, e1, hr1⟩ := S2.lendRd (i := 0) rfl (by show _ * 16 ≤ _; first | omega | (simp only [lens]; omega))
     have hcall1 := PolyMay_q acc hr1 S2.lend
     refine wlo 1 2 rfl rfl rfl (wo_cq rfl rfl rfl rfl rfl rfl rfl cf17 S2 (Cq.cast (by simp only [e1]) (hcall1)) ?_)
     rintro _ w19 S21 rfl; clear S2
     refine wlo 2 3 rfl rfl rfl (wo_run rfl rfl (run_not rfl rfl) ?_)
     refine wlm 3 4 rfl rfl rfl rfl rfl rfl rfl ?_
     refine wl_split (t := 161) rfl (fun hg161 => ?_) (fun hg161 => ?_)
     ·simp only [Bool.and_eq_true, Bool.or_eq_true, Bool.and_eq_false_iff, Bool.or_eq_false_iff, decide_eq_true_eq, decide_eq_false_iff_not, Bool.not_eq_true', Bool.not_eq_false'] at hg161
      refine wl_no (k := 4) (k' := 5) (d := 162) rfl rfl ⟨_, _, _, rfl, rfl, rfl, rfl⟩ rfl rfl ?_
      refine wl_no (k := 5) (k' := 6) (d := 163) rfl rfl ⟨_, _, _, rfl, rfl, rfl, rfl⟩ rfl rfl ?_
      refine wl_no (k := 6) (k' := 7) (d := 164) rfl rfl ⟨_, _, _, rfl, rfl, rfl, rfl⟩ rfl rfl ?_
      refine wl_no (k := 7) (k' := 8) (d := 165) rfl rfl ⟨_, _, _, rfl, rfl, rfl, rfl⟩ rfl rfl ?_
      refine wlo 8 9 rfl rfl rfl (wo_run rfl rfl (run_pickT rfl rfl rfl) ?_)
      refine wl_end rfl ?_
      refine nm_sub [(4, _), (166, _)] ⟨rfl, rfl, trivial⟩ ?_
      refine nm_thn ?_
      refine ws_condTN ReadPoly_n128 rfl rfl rfl ?_
      refine ws_seqN ReadPoly_n130 ReadPoly_n131 rfl rfl rfl ?_
      refine ws_region rfl ?_
      refine wla 0 1 rfl rfl rfl rfl rfl rfl rfl ?_
      refine wla 1 2 rfl rfl rfl rfl rfl rfl rfl ?_
      refine wl_end rfl ?_
      refine nm_sub [(2, _), (3, _)] ⟨rfl, rfl, trivial⟩ ?_
      refine nm_thn ?_
      refine ws_ret hC [_, _] rfl rfl ⟨rfl, rfl, trivial⟩ ?_
      refine ⟨_, rfl, _, hle1, (S21.pick [] [] (by decide) trivial), ?_⟩
      refine TE.of (p := ([], 1)) ⟨_, _, rfl, RdA.nil_⟩ ?_
      unfold pieceR
      rw [if_neg (by omega), if_neg (by assumption)]
      have hrr : refR s = endR s acc := by unfold refR; rw [← hrn, runR_end (by omega)]
      rw [hrr]
      unfold endR
      rw [if_neg (by rintro ⟨h1, h2⟩; first | (simp_all; done) | contradiction)]
     ·simp only [Bool.and_eq_true, Bool.or_eq_true, Bool.and_eq_false_iff, Bool.or_eq_false_iff, decide_eq_true_eq, decide_eq_false_iff_not, Bool.not_eq_true', Bool.not_eq_false'] at hg161
      have hm9 : mayT acc = true := by simpa using hg161
      obtain ⟨hal9, hok9⟩ := mayT_may hm9
      refine wl_opG (k := 4) (k' := 5) rfl rfl ⟨_, _, _, rfl, rfl, rfl, rfl⟩ rfl (wo_run rfl rfl (run_move rfl rfl) ?_)
      obtain ⟨A2, c2, e2, hr2⟩ := S21.lendRd (i := 0) rfl (by show _ * 16 ≤ _; first | omega | (simp only [lens]; omega))
      have hcall2 := PolyText_q acc hr2 hok9 hal9 S21.lend
      refine wl_opG (k := 5) (k' := 6) rfl rfl ⟨_, _, _, rfl, rfl, rfl, rfl⟩ rfl (wo_cq rfl rfl rfl rfl rfl rfl rfl cf18 S21 (Cq.cast (by simp only [e2]) (hcall2)) ?_)
      rintro _ w20 S22 rfl; clear S21
      refine wl_opG (k := 6) (k' := 7) rfl rfl ⟨_, _, _, rfl, rfl, rfl, rfl⟩ rfl (wo_run rfl rfl (run_move rfl rfl) ?_)
      refine wl_opG (k := 7) (k' := 8) rfl rfl ⟨_, _, _, rfl, rfl, rfl, rfl⟩ rfl (wo_run rfl rfl (run_neqD rfl rfl rfl) ?_)
      refine wlo 8 9 rfl rfl rfl (wo_run rfl rfl (run_pickF rfl rfl rfl) ?_)
      refine wl_end rfl ?_
      refine nm_sub [(4, _), (166, _)] ⟨rfl, rfl, trivial⟩ ?_
      refine nm_thn ?_
      refine ws_condN ReadPoly_n128 ReadPoly_n129 rfl rfl rfl rfl (fun hb166 => ?_) (fun hb166 => ?_)
      ·replace hb166 := of_decide_eq_true hb166
       refine ws_seqN ReadPoly_n130 ReadPoly_n131 rfl rfl rfl ?_
       refine ws_region rfl ?_
       refine wla 0 1 rfl rfl rfl rfl rfl rfl rfl ?_
       refine wla 1 2 rfl rfl rfl rfl rfl rfl rfl ?_
       refine wl_end rfl ?_
       refine nm_sub [(2, _), (3, _)] ⟨rfl, rfl, trivial⟩ ?_
       refine nm_thn ?_
       refine ws_ret hC [_, _] rfl rfl ⟨rfl, rfl, trivial⟩ ?_
       refine ⟨_, rfl, _, hle1, (S22.pick [] [] (by decide) trivial), ?_⟩
       refine TE.of (p := ([], 1)) ⟨_, _, rfl, RdA.nil_⟩ ?_
       unfold pieceR
       rw [if_neg (by omega), if_neg (by assumption)]
       have hrr : refR s = endR s acc := by unfold refR; rw [← hrn, runR_end (by omega)]
       rw [hrr]
       unfold endR
       rw [if_neg (by rintro ⟨h1, h2⟩; first | (simp_all; done) | contradiction)]
      ·replace hb166 := of_decide_eq_false hb166
       refine ws_skip rfl ?_
       refine nm_sub [(4, _)] ⟨rfl, trivial⟩ ?_
       refine nm_thn ?_
       refine ws_seqN ReadPoly_n132 ReadPoly_n133 rfl rfl rfl ?_
       refine ws_region rfl ?_
       refine wlm 0 1 rfl rfl rfl rfl rfl rfl rfl ?_
       refine wla 1 2 rfl rfl rfl rfl rfl rfl rfl ?_
       refine wla 2 3 rfl rfl rfl rfl rfl rfl rfl ?_
       refine wl_end rfl ?_
       refine nm_sub [(2, _), (3, _)] ⟨rfl, rfl, trivial⟩ ?_
       refine nm_thn ?_
       obtain ⟨M6, hle6, S23, ⟨A3, c3, e3, hr3⟩⟩ := S22.pubrow (i := 0) (H' := [_]) rfl rfl (by show _ * 16 ≤ _; first | omega | (simp only [lens]; omega))
       clear S22; subst e3
       refine ws_ret hC [_, _] rfl rfl ⟨rfl, rfl, trivial⟩ ?_
       refine ⟨_, rfl, _, hle1.trans hle6, (S23.pick [] [] (by decide) trivial), ?_⟩
       refine TE.of (p := (acc, 0)) ⟨_, _, rfl, hr3⟩ ?_
       unfold pieceR
       rw [if_neg (by omega), if_neg (by assumption)]
       have hrr : refR s = endR s acc := by unfold refR; rw [← hrn, runR_end (by omega)]
       rw [hrr]
       unfold endR
       rw [if_pos ⟨hm9, by first | assumption | (simp_all; done)⟩]
end Go.Proofs.YtklcecpjgingpaaDoor
namespace Go.Proofs.YtklcecpjgingpaaDoor
open Go.ChangeShapes Go.WideShapes Go.ChangeAt Go.RowKit
noncomputable def sameTerms_n0 : Code := Tryd.f7.body.getD .skip
noncomputable def sameTerms_n1 : Code := cL sameTerms_n0
noncomputable def sameTerms_n2 : Code := cR sameTerms_n0
noncomputable def sameTerms_n3 : Code := cL sameTerms_n2
noncomputable def sameTerms_n4 : Code := cR sameTerms_n2
noncomputable def sameTerms_n5 : Code := cL sameTerms_n3
noncomputable def sameTerms_n6 : Code := cR sameTerms_n3
noncomputable def sameTerms_n7 : Code := cL sameTerms_n6
noncomputable def sameTerms_n8 : Code := cR sameTerms_n6
noncomputable def sameTerms_n9 : Code := cL sameTerms_n4
noncomputable def sameTerms_n10 : Code := cR sameTerms_n4
noncomputable def sameTerms_n11 : Code := cL sameTerms_n9
noncomputable def sameTerms_n12 : Code := cR sameTerms_n9
noncomputable def sameTerms_n13 : Code := cL sameTerms_n12
noncomputable def sameTerms_n14 : Code := cL sameTerms_n13
noncomputable def sameTerms_n15 : Code := cL sameTerms_n14
noncomputable def sameTerms_n16 : Code := cR sameTerms_n14
noncomputable def sameTerms_n17 : Code := cL sameTerms_n15
noncomputable def sameTerms_n18 : Code := cR sameTerms_n15
noncomputable def sameTerms_n19 : Code := cL sameTerms_n18
noncomputable def sameTerms_n20 : Code := cR sameTerms_n18
noncomputable def sameTerms_n21 : Code := cL sameTerms_n16
noncomputable def sameTerms_n22 : Code := cR sameTerms_n16
noncomputable def sameTerms_n23 : Code := cL sameTerms_n21
noncomputable def sameTerms_n24 : Code := cL sameTerms_n23
noncomputable def sameTerms_n25 : Code := cR sameTerms_n23
noncomputable def sameTerms_n26 : Code := cL sameTerms_n25
noncomputable def sameTerms_n27 : Code := cR sameTerms_n25
noncomputable def sameTerms_n28 : Code := cL sameTerms_n10
noncomputable def sameTerms_n29 : Code := cR sameTerms_n10
set_option maxRecDepth 10000 in
theorem sameTerms_q {w : World} {M : Hp} {X : Fr} (p : List Tm) {pA : Option Addr} {pc : Nat} (q : List Tm) {qA : Option Addr} {qc : Nat} (hp : RdA cdTm (M.un X.h) pA pc p) (hq : RdA cdTm (M.un X.h) qA qc q) (he : p = q) (S : SH w M X []) : Cq Tryd.prog 7 [.slice pA p.length pc, .slice qA q.length qc] w M X (fun u => u = .bool true) := by
 unfold Cq
 have rmhp : p.length * 16 ≤ 140737488355328 := hp.room
 have rmhq : q.length * 16 ≤ 140737488355328 := hq.room
 have hle : p.length = q.length := by rw [he]
 refine calls_in (b := sameTerms_n0) Tryd.func7 rfl Tryd.ntmps7 rfl (fun C hC => ?_)
 refine ws_sub [(0, _), (1, _)] ⟨rfl, rfl, trivial⟩ ?_
 refine ws_seqN sameTerms_n1 sameTerms_n2 rfl rfl rfl ?_
 refine ws_region rfl ?_
 refine wla 0 1 rfl rfl rfl rfl rfl rfl rfl ?_
 refine wl_end rfl ?_
 refine nm_sub [(0, _), (1, _)] ⟨rfl, rfl, trivial⟩ ?_
 refine nm_thn ?_
 refine ws_seqN sameTerms_n3 sameTerms_n4 rfl rfl rfl ?_
 refine ws_seqN sameTerms_n5 sameTerms_n6 rfl rfl rfl ?_
 refine ws_region rfl ?_
 refine wlm 0 1 rfl rfl rfl rfl rfl rfl rfl ?_
 refine wlo 1 2 rfl rfl rfl (wo_run rfl rfl (run_len rfl rfl rfl rfl rfl rfl Tryd.underlying22) ?_)
 refine wlm 2 3 rfl rfl rfl rfl rfl rfl rfl ?_
 refine wlo 3 4 rfl rfl rfl (wo_run rfl rfl (run_len rfl rfl rfl rfl rfl rfl Tryd.underlying22) ?_)
 refine wlo 4 5 rfl rfl rfl (wo_run rfl rfl (run_neq rfl rfl rfl) ?_)
 refine wl_end rfl ?_
 refine nm_sub [(0, _), (1, _), (10, _)] ⟨rfl, rfl, rfl, trivial⟩ ?_
 refine nm_thn ?_
 refine ws_condN sameTerms_n7 sameTerms_n8 rfl rfl rfl rfl (fun hb10 => ?_) (fun hb10 => ?_)
 ·replace hb10 := of_decide_eq_true hb10
  exfalso; omega
 ·replace hb10 := of_decide_eq_false hb10
  refine ws_skip rfl ?_
  refine nm_sub [(0, _), (1, _)] ⟨rfl, rfl, trivial⟩ ?_
  refine nm_thn ?_
  refine ws_seqN sameTerms_n9 sameTerms_n10 rfl rfl rfl ?_
  refine ws_seqN sameTerms_n11 sameTerms_n12 rfl rfl rfl ?_
  refine ws_region rfl ?_
  refine wla 0 1 rfl rfl rfl rfl rfl rfl rfl ?_
  refine wl_end rfl ?_
  refine nm_thn ?_
  refine ws_blockN sameTerms_n13 0 rfl rfl rfl ?_
  refine ws_loopE (fun mx_ ax_ wx_ => ∃ (k : Nat), mx_ = p.length - k ∧ Env 26 [(0, .slice pA p.length pc), (1, .slice qA q.length qc), (5, .int .i64 (k : Int))] ax_ ∧ SH wx_ M X [] ∧ k ≤ p.length) rfl ?_ ?_
  ·intro ax_ hax_
   refine ⟨_, ⟨0, rfl, hax_.sub ⟨rfl, rfl, rfl, trivial⟩, S.pick [] [] (by decide) trivial, ?hq1f0⟩⟩
   case hq1f0 => omega
  ·rintro m1 a1 w1 ⟨k, rfl, he1, S1, hk⟩
   clear S
   refine ws_in he1 (c := sameTerms_n14) rfl ?_
   clear he1 a1
   refine ws_seqN sameTerms_n15 sameTerms_n16 rfl rfl rfl ?_
   refine ws_seqN sameTerms_n17 sameTerms_n18 rfl rfl rfl ?_
   refine ws_region rfl ?_
   refine wlm 0 1 rfl rfl rfl rfl rfl rfl rfl ?_
   refine wlm 1 2 rfl rfl rfl rfl rfl rfl rfl ?_
   refine wlo 2 3 rfl rfl rfl (wo_run rfl rfl (run_len rfl rfl rfl rfl rfl rfl Tryd.underlying22) ?_)
   refine wlo 3 4 rfl rfl rfl (wo_run rfl rfl (run_lss rfl rfl rfl) ?_)
   refine wl_end rfl ?_
   refine nm_sub [(0, _), (1, _), (5, _), (14, _)] ⟨rfl, rfl, rfl, rfl, trivial⟩ ?_
   refine nm_thn ?_
   refine ws_condN sameTerms_n19 sameTerms_n20 rfl rfl rfl rfl (fun hb14 => ?_) (fun hb14 => ?_)
   ·replace hb14 := of_decide_eq_true hb14
    refine ws_skip rfl ?_
    refine nm_sub [(0, _), (1, _), (5, _)] ⟨rfl, rfl, rfl, trivial⟩ ?_
    refine nm_thn ?_
    refine ws_seqN sameTerms_n21 sameTerms_n22 rfl rfl rfl ?_
    refine ws_blockN sameTerms_n23 1 rfl rfl rfl ?_
    refine ws_seqN sameTerms_n24 sameTerms_n25 rfl rfl rfl ?_
    refine ws_draw rfl (by kernel_rfl) S1 9 rfl ?_
    clear S1
    refine wa_takeP (i := 0) (d := 17) 8 rfl (by kernel_rfl) (by kernel_rfl) (by kernel_rfl) rfl rfl rfl (fun w2 => run_move rfl rfl) ?_
    refine wa_takeP (i := 1) (d := 18) 7 rfl (by kernel_rfl) (by kernel_rfl) (by kernel_rfl) rfl rfl rfl (fun w3 => run_move rfl rfl) ?_
    refine wa_take (i := 2) (d := 19) 6 rfl (by kernel_rfl) (by kernel_rfl) (by kernel_rfl) rfl rfl rfl (fun M3 N3 w4 hle4 S4 => .inl (run_indexM (C := cdTm) k rfl rfl rfl sl22 (by first | rfl | omega) (hp.mono (Hp.un_mono hle4 S4.mx)) (by first | omega | (simp only [lens]; omega)))) ?_
    refine wa_take (i := 3) (d := 20) 5 rfl (by kernel_rfl) (by kernel_rfl) (by kernel_rfl) rfl rfl rfl (fun M4 N4 w5 hle5 S5 => .inl (run_loadN (us := [_, _]) rfl rfl Tryd.underlying38 rfl sz38 ((hp.mono (Hp.un_mono hle5 S5.mx)).cellsAt S5.um (e := k) (by first | omega | (simp only [lens]; omega)) (j := 0) ⟨rfl, rfl, trivial⟩))) ?_
    refine wa_takeP (i := 4) (d := 21) 4 rfl (by kernel_rfl) (by kernel_rfl) (by kernel_rfl) rfl rfl rfl (fun w6 => run_move rfl rfl) ?_
    refine wa_takeP (i := 5) (d := 22) 3 rfl (by kernel_rfl) (by kernel_rfl) (by kernel_rfl) rfl rfl rfl (fun w7 => run_move rfl rfl) ?_
    refine wa_take (i := 6) (d := 23) 2 rfl (by kernel_rfl) (by kernel_rfl) (by kernel_rfl) rfl rfl rfl (fun M7 N7 w8 hle8 S8 => .inl (run_indexM (C := cdTm) k rfl rfl rfl sl22 (by first | rfl | omega) (hq.mono (Hp.un_mono hle8 S8.mx)) (by first | omega | (simp only [lens]; omega)))) ?_
    refine wa_take (i := 7) (d := 24) 1 rfl (by kernel_rfl) (by kernel_rfl) (by kernel_rfl) rfl rfl rfl (fun M8 N8 w9 hle9 S9 => .inl (run_loadN (us := [_, _]) rfl rfl Tryd.underlying38 rfl sz38 ((hq.mono (Hp.un_mono hle9 S9.mx)).cellsAt S9.um (e := k) (by first | omega | (simp only [lens]; omega)) (j := 0) ⟨rfl, rfl, trivial⟩))) ?_
    refine wa_takeP (i := 8) (d := 25) 0 rfl (by kernel_rfl) (by kernel_rfl) (by kernel_rfl) rfl rfl rfl (fun w10 => run_neSt (Q := ((ga p k).e) = ((ga q k).e) ∧ ((ga p k).c) = ((ga q k).c)) rfl rfl rfl se38 ⟨_, _, _, _, rfl, rfl, ⟨_, _, _, rfl, rfl, rfl⟩, rfl⟩) ?_
    refine wa_end (by kernel_rfl) (fun w11 S11 => ?_)
    refine nm_sub [(0, _), (1, _), (5, _), (25, _)] ⟨rfl, rfl, rfl, rfl, trivial⟩ ?_
    refine nm_thn ?_
    refine ws_condN sameTerms_n26 sameTerms_n27 rfl rfl rfl rfl (fun hb25 => ?_) (fun hb25 => ?_)
    ·replace hb25 := of_decide_eq_true hb25
     exfalso; exact hb25 (by rw [he]; exact ⟨rfl, rfl⟩)
    ·replace hb25 := of_decide_eq_false hb25
     refine ws_skip rfl ?_
     refine nm_blk ?_
     refine nm_sub [(0, _), (1, _), (5, _)] ⟨rfl, rfl, rfl, trivial⟩ ?_
     refine nm_thn ?_
     refine ws_region rfl ?_
     refine wlm 0 1 rfl rfl rfl rfl rfl rfl rfl ?_
     refine wlo 1 2 rfl rfl rfl (wo_run rfl rfl (run_add rfl rfl rfl (by first | omega | (simp only [lens]; omega))) ?_)
     refine wla 2 3 rfl rfl rfl rfl rfl rfl rfl ?_
     refine wl_end rfl ?_
     refine nm_lp ?_
     intro ax_ hax_
     refine ⟨_, ?hq2m, ⟨k + 1, rfl, hax_.sub ⟨rfl, rfl, rfl, trivial⟩, S11.pick [] [] (by decide) trivial, ?hq2f0⟩⟩
     case hq2f0 => omega
     case hq2m => omega
   ·replace hb14 := of_decide_eq_false hb14
    refine ws_exit rfl rfl ?_
    refine nm_sub [] trivial ?_
    refine nm_thn ?_
    refine ws_seqN sameTerms_n28 sameTerms_n29 rfl rfl rfl ?_
    refine ws_region rfl ?_
    refine wla 0 1 rfl rfl rfl rfl rfl rfl rfl ?_
    refine wl_end rfl ?_
    refine nm_thn ?_
    refine ws_ret hC [_] rfl rfl ⟨rfl, trivial⟩ ?_
    exact ⟨_, rfl, (S1.pick [] [] (by decide) trivial), rfl⟩
noncomputable def PolyReads_n0 : Code := Tryd.f3.body.getD .skip
noncomputable def PolyReads_n1 : Code := cL PolyReads_n0
noncomputable def PolyReads_n2 : Code := cR PolyReads_n0
noncomputable def PolyReads_n3 : Code := cL PolyReads_n2
noncomputable def PolyReads_n4 : Code := cR PolyReads_n2
noncomputable def PolyReads_n5 : Code := cL PolyReads_n4
noncomputable def PolyReads_n6 : Code := cR PolyReads_n4
noncomputable def PolyReads_n7 : Code := cL PolyReads_n6
noncomputable def PolyReads_n8 : Code := cR PolyReads_n6
set_option maxRecDepth 10000 in
theorem PolyReads_t {w : World} {M : Hp} {X : Fr} (s : List UInt8) (hlb : LibOk (M.un X.h)) (S : SH w M X []) : Ct Tryd.prog 3 [.string (sB s)] w M X (fun u _ => u = .bool true) := by
 unfold Ct
 refine calls_in (b := PolyReads_n0) Tryd.func3 rfl Tryd.ntmps3 rfl (fun C hC => ?_)
 refine ws_sub [(0, _)] ⟨rfl, trivial⟩ ?_
 refine ws_seqN PolyReads_n1 PolyReads_n2 rfl rfl rfl ?_
 refine ws_region rfl ?_
 refine wla 0 1 rfl rfl rfl rfl rfl rfl rfl ?_
 refine wl_end rfl ?_
 refine nm_sub [(0, _)] ⟨rfl, trivial⟩ ?_
 refine nm_thn ?_
 refine ws_seqN PolyReads_n3 PolyReads_n4 rfl rfl rfl ?_
 refine ws_region rfl ?_
 refine wlm 0 1 rfl rfl rfl rfl rfl rfl rfl ?_
 refine wlo 1 2 rfl rfl rfl (wo_ct rfl rfl rfl rfl rfl rfl rfl cf5 S (Read_t s (hlb.mono S.un_XH) S.lend) ?_)
 intro vw1 w1 M1 hle1 S1 hRw1; clear S
 replace hlb := hlb.mono (Hp.un_mono hle1 S1.mx)
 rw [read_all] at hRw1
 obtain ⟨A1, c1, rfl, hr1⟩ := hRw1
 have rmhr1 : (pieceR s (refR s)).1.length * 16 ≤ 140737488355328 := hr1.room
 refine wlm 2 3 rfl rfl rfl rfl rfl rfl rfl ?_
 refine wlo 3 4 rfl rfl rfl (wo_run rfl rfl (run_extract rfl rfl rfl) ?_)
 refine wlo 4 5 rfl rfl rfl (wo_run rfl rfl (run_extract rfl rfl rfl) ?_)
 refine wla 5 6 rfl rfl rfl rfl rfl rfl rfl ?_
 refine wla 6 7 rfl rfl rfl rfl rfl rfl rfl ?_
 refine wl_end rfl ?_
 refine nm_sub [(0, _), (3, _), (4, _)] ⟨rfl, rfl, rfl, trivial⟩ ?_
 refine nm_thn ?_
 refine ws_seqN PolyReads_n5 PolyReads_n6 rfl rfl rfl ?_
 refine ws_region rfl ?_
 refine wlm 0 1 rfl rfl rfl rfl rfl rfl rfl ?_
 refine wlo 1 2 rfl rfl rfl (wo_ct rfl rfl rfl rfl rfl rfl rfl cf6 S1 (ReadPoly_t s S1.lend) ?_)
 intro vw2 w2 M2 hle2 S2 hRw2; clear S1
 replace hlb := hlb.mono (Hp.un_mono hle2 S2.mx)
 replace hr1 := hr1.mono hle2
 obtain ⟨A2, c2, rfl, hr2⟩ := hRw2
 have rmhr2 : (pieceR s (refR s)).1.length * 16 ≤ 140737488355328 := hr2.room
 refine wlm 2 3 rfl rfl rfl rfl rfl rfl rfl ?_
 refine wlo 3 4 rfl rfl rfl (wo_run rfl rfl (run_extract rfl rfl rfl) ?_)
 refine wlo 4 5 rfl rfl rfl (wo_run rfl rfl (run_extract rfl rfl rfl) ?_)
 refine wla 5 6 rfl rfl rfl rfl rfl rfl rfl ?_
 refine wla 6 7 rfl rfl rfl rfl rfl rfl rfl ?_
 refine wl_end rfl ?_
 refine nm_sub [(3, _), (4, _), (5, _), (6, _)] ⟨rfl, rfl, rfl, rfl, trivial⟩ ?_
 refine nm_thn ?_
 refine ws_seqN PolyReads_n7 PolyReads_n8 rfl rfl rfl ?_
 refine ws_region rfl ?_
 refine wlm 0 1 rfl rfl rfl rfl rfl rfl rfl ?_
 refine wlm 1 2 rfl rfl rfl rfl rfl rfl rfl ?_
 refine wlo 2 3 rfl rfl rfl (wo_run rfl rfl (run_eql rfl rfl rfl) ?_)
 refine wlm 3 4 rfl rfl rfl rfl rfl rfl rfl ?_
 refine wl_split (t := 20) rfl (fun hg20 => ?_) (fun hg20 => ?_)
 ·replace hg20 := of_decide_eq_true hg20
  refine wl_opG (k := 4) (k' := 5) rfl rfl ⟨_, _, _, rfl, rfl, rfl, rfl⟩ rfl (wo_run rfl rfl (run_move rfl rfl) ?_)
  refine wl_opG (k := 5) (k' := 6) rfl rfl ⟨_, _, _, rfl, rfl, rfl, rfl⟩ rfl (wo_run rfl rfl (run_move rfl rfl) ?_)
  refine wl_opG (k := 6) (k' := 7) rfl rfl ⟨_, _, _, rfl, rfl, rfl, rfl⟩ rfl (wo_cq rfl rfl rfl rfl rfl rfl rfl cf7 S2 (sameTerms_q ((pieceR s (refR s)).1) ((pieceR s (refR s)).1) (hr1.mono (Hp.le_un _ _)) (hr2.mono (Hp.le_un _ _)) (rfl) S2.lend) ?_)
  rintro _ w3 S3 rfl; clear S2
  refine wlo 7 8 rfl rfl rfl (wo_run rfl rfl (run_pickT rfl rfl rfl) ?_)
  refine wla 8 9 rfl rfl rfl rfl rfl rfl rfl ?_
  refine wl_end rfl ?_
  refine nm_sub [(2, _)] ⟨rfl, trivial⟩ ?_
  refine nm_thn ?_
  refine ws_ret hC [_] rfl rfl ⟨rfl, trivial⟩ ?_
  refine ⟨_, rfl, _, hle1.trans hle2, (S3.pick [] [] (by decide) trivial), ?_⟩
  show Value.bool _ = _
  refine congrArg Value.bool ?_
  first | rfl | (rw [decide_eq_true_iff]; omega) | (simp_all; done)
 ·replace hg20 := of_decide_eq_false hg20
  exfalso; first | omega | contradiction
end Go.Proofs.YtklcecpjgingpaaDoor
