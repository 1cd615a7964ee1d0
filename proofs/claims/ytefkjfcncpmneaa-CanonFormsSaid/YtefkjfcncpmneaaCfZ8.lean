/- Part 8 of the proof of the law CanonForms: the walks through its functions and the plain laws that they need. -/
import Derived.Test.YtefkjfcncpmneaaCfZ7
set_option linter.unusedSimpArgs false
set_option linter.unusedVariables false
namespace Go.Proofs.Ytefkjfcncpmneaa
open Go.ChangeShapes Go.WideShapes Go.ChangeAt Go.RowKit
/-- What is chosen so far among the first i. -/
def SelI (K : Nat → List Int) (κ : List Nat) (i : Nat) (kk : Int) : Prop := (kk = -1 ∧ ∀ j, j < i → j ∈ κ) ∨ ∃ k : Nat, kk = (k : Int) ∧ k < i ∧ k ∉ κ ∧ ∀ j, j < i → j ∉ κ → j ≠ k → bef K k j
theorem SelI.skip {K : Nat → List Int} {κ : List Nat} {i : Nat} {kk : Int} (h : SelI K κ i kk) (hi : i ∈ κ) : SelI K κ (i + 1) kk := by
 rcases h with ⟨h1, h2⟩ | ⟨k, h1, h2, h3, h4⟩
 ·exact .inl ⟨h1, fun j hj => by by_cases e : j = i; (subst e; exact hi); exact h2 j (by omega)⟩
 ·exact .inr ⟨k, h1, by omega, h3, fun j hj hjn hjk => h4 j (by by_cases e : j = i; (subst e; exact absurd hi hjn); omega) hjn hjk⟩
theorem SelI.first {K : Nat → List Int} {κ : List Nat} {i : Nat} {kk : Int} (h : SelI K κ i kk) (hk : kk < 0) (hi : i ∉ κ) : SelI K κ (i + 1) (i : Int) := by
 rcases h with ⟨_, h2⟩ | ⟨k, h1, _⟩
 ·exact .inr ⟨i, rfl, by omega, hi, fun j hj hjn hji => absurd (h2 j (by omega)) hjn⟩
 ·omega
theorem SelI.take {K : Nat → List Int} {κ : List Nat} {i k : Nat} (h : SelI K κ i (k : Int)) (hi : i ∉ κ) (hl : lessL (K i) (K k) = true) : SelI K κ (i + 1) (i : Int) := by
 rcases h with ⟨h1, _⟩ | ⟨k', h1, h2, h3, h4⟩
 ·omega
 ·obtain rfl : k = k' := by omega
  refine .inr ⟨i, rfl, by omega, hi, fun j hj hjn hji => ?_⟩
  by_cases e : j = k
  ·subst e; exact .inl hl
  ·exact bef_trans (.inl hl) (h4 j (by omega) hjn e)
theorem SelI.stay {K : Nat → List Int} {κ : List Nat} {i k : Nat} (h : SelI K κ i (k : Int)) (hl : lessL (K i) (K k) = false) : SelI K κ (i + 1) (k : Int) := by
 rcases h with ⟨h1, _⟩ | ⟨k', h1, h2, h3, h4⟩
 ·omega
 ·obtain rfl : k = k' := by omega
  refine .inr ⟨k, rfl, by omega, h3, fun j hj hjn hjk => ?_⟩
  by_cases e : j = i
  ·subst e; exact .inr ⟨hl, h2⟩
  ·exact h4 j (by omega) hjn hjk
def BstI (d : Dg) (p i : Nat) (cx ox : List Int) : Prop := (bst (kD d) (flt d p i) = none ∧ cx = [] ∧ ox = []) ∨ ∃ b, bst (kD d) (flt d p i) = some b ∧ b < d.crs.length ∧ cx = (cfE d b).co ∧ ox = (cfE d b).od
theorem co_pos {d : Dg} (hab : arcsB d = true) {b : Nat} (hb : b < d.crs.length) : 0 < (cfE d b).co.length := by
 obtain ⟨_, h2, _⟩ := cfE_len hab hb
 have h3 := (cfN_ok hab hb d.crs.length).1.ps
 have h4 : 0 < (cfE d b).od.length := h3
 omega
theorem BstI.skip {d : Dg} {p i : Nat} {cx ox : List Int} (h : BstI d p i cx ox) (hn : ¬ ga (whoL d) i = (p : Int)) : BstI d p (i + 1) cx ox := by
 unfold BstI; rw [flt_succ, if_neg hn]; exact h
theorem BstI.first {d : Dg} {p i : Nat} {cx ox : List Int} (hab : arcsB d = true) (h : BstI d p i cx ox) (hy : ga (whoL d) i = (p : Int)) (hi : i < d.crs.length) (h0 : cx.length = 0) : BstI d p (i + 1) (cfE d i).co (cfE d i).od := by
 unfold BstI; rw [flt_succ, if_pos hy, bst_snoc]
 rcases h with ⟨h1, _⟩ | ⟨b, h1, h2, h3, _⟩
 ·rw [h1]; exact .inr ⟨i, rfl, hi, rfl, rfl⟩
 ·have := co_pos hab h2; rw [h3] at h0; omega
theorem BstI.less {d : Dg} {p i : Nat} {cx ox : List Int} (h : BstI d p i cx ox) (hy : ga (whoL d) i = (p : Int)) (hi : i < d.crs.length) (h0 : ¬ cx.length = 0) (hl : lessL (cfE d i).co cx = true) : BstI d p (i + 1) (cfE d i).co (cfE d i).od := by
 unfold BstI; rw [flt_succ, if_pos hy, bst_snoc]
 rcases h with ⟨_, h2, _⟩ | ⟨b, h1, h2, h3, _⟩
 ·rw [h2] at h0; exact absurd rfl h0
 ·rw [h1]; unfold bstS; dsimp only
  rw [if_pos (show lessL (kD d i) (kD d b) = true by rw [h3] at hl; exact hl)]
  exact .inr ⟨i, rfl, hi, rfl, rfl⟩
theorem BstI.stay {d : Dg} {p i : Nat} {cx ox : List Int} (h : BstI d p i cx ox) (hy : ga (whoL d) i = (p : Int)) (h0 : ¬ cx.length = 0) (hl : lessL (cfE d i).co cx = false) : BstI d p (i + 1) cx ox := by
 unfold BstI; rw [flt_succ, if_pos hy, bst_snoc]
 rcases h with ⟨_, h2, _⟩ | ⟨b, h1, h2, h3, h4⟩
 ·rw [h2] at h0; exact absurd rfl h0
 ·rw [h1]; unfold bstS; dsimp only
  rw [if_neg (show ¬ lessL (kD d i) (kD d b) = true by rw [h3] at hl; unfold kD; rw [hl]; decide)]
  exact .inr ⟨b, rfl, h2, h3, h4⟩
theorem BstI.fin {d : Dg} (hab : arcsB d = true) {p : Nat} (hp : p < d.crs.length) (hr : ga (whoL d) p = (p : Int)) {cx ox : List Int} (h : BstI d p d.crs.length cx ox) : (ksD d).take (rtC d p) ++ [(ox, cx)] = (ksD d).take (rtC d (p + 1)) := by
 obtain ⟨r1, r2, r3⟩ := root_at hab hp hr
 obtain ⟨b1, b2, _⟩ := best_mem hab r3
 unfold BstI at h
 rw [pcN_flt hab hp hr, b1] at h
 rcases h with ⟨h, _⟩ | ⟨b, h1, _, h3, h4⟩
 ·cases h
 ·injection h1 with h1
  rw [r2, take_ga _ _ (by rw [ksD_len]; exact r3), ksD_ga d r3, h1, h3, h4]
noncomputable def CanonForm_n0 : Code := Try.f13.body.getD .skip
noncomputable def CanonForm_n1 : Code := cL CanonForm_n0
noncomputable def CanonForm_n2 : Code := cR CanonForm_n0
noncomputable def CanonForm_n3 : Code := cL CanonForm_n2
noncomputable def CanonForm_n4 : Code := cR CanonForm_n2
noncomputable def CanonForm_n5 : Code := cL CanonForm_n4
noncomputable def CanonForm_n6 : Code := cR CanonForm_n4
noncomputable def CanonForm_n7 : Code := cL CanonForm_n6
noncomputable def CanonForm_n8 : Code := cR CanonForm_n6
noncomputable def CanonForm_n9 : Code := cL CanonForm_n7
noncomputable def CanonForm_n10 : Code := cR CanonForm_n7
noncomputable def CanonForm_n11 : Code := cL CanonForm_n10
noncomputable def CanonForm_n12 : Code := cL CanonForm_n11
noncomputable def CanonForm_n13 : Code := cL CanonForm_n12
noncomputable def CanonForm_n14 : Code := cR CanonForm_n12
noncomputable def CanonForm_n15 : Code := cL CanonForm_n13
noncomputable def CanonForm_n16 : Code := cR CanonForm_n13
noncomputable def CanonForm_n17 : Code := cL CanonForm_n16
noncomputable def CanonForm_n18 : Code := cR CanonForm_n16
noncomputable def CanonForm_n19 : Code := cL CanonForm_n14
noncomputable def CanonForm_n20 : Code := cR CanonForm_n14
noncomputable def CanonForm_n21 : Code := cL CanonForm_n19
noncomputable def CanonForm_n22 : Code := cL CanonForm_n21
noncomputable def CanonForm_n23 : Code := cR CanonForm_n21
noncomputable def CanonForm_n24 : Code := cL CanonForm_n22
noncomputable def CanonForm_n25 : Code := cR CanonForm_n22
noncomputable def CanonForm_n26 : Code := cL CanonForm_n25
noncomputable def CanonForm_n27 : Code := cR CanonForm_n25
noncomputable def CanonForm_n28 : Code := cL CanonForm_n23
noncomputable def CanonForm_n29 : Code := cR CanonForm_n23
noncomputable def CanonForm_n30 : Code := cL CanonForm_n29
noncomputable def CanonForm_n31 : Code := cR CanonForm_n29
noncomputable def CanonForm_n32 : Code := cL CanonForm_n30
noncomputable def CanonForm_n33 : Code := cR CanonForm_n30
noncomputable def CanonForm_n34 : Code := cL CanonForm_n33
noncomputable def CanonForm_n35 : Code := cL CanonForm_n34
noncomputable def CanonForm_n36 : Code := cL CanonForm_n35
noncomputable def CanonForm_n37 : Code := cR CanonForm_n35
noncomputable def CanonForm_n38 : Code := cL CanonForm_n36
noncomputable def CanonForm_n39 : Code := cR CanonForm_n36
noncomputable def CanonForm_n40 : Code := cL CanonForm_n39
noncomputable def CanonForm_n41 : Code := cR CanonForm_n39
noncomputable def CanonForm_n42 : Code := cL CanonForm_n37
noncomputable def CanonForm_n43 : Code := cR CanonForm_n37
noncomputable def CanonForm_n44 : Code := cL CanonForm_n42
noncomputable def CanonForm_n45 : Code := cL CanonForm_n44
noncomputable def CanonForm_n46 : Code := cR CanonForm_n44
noncomputable def CanonForm_n47 : Code := cL CanonForm_n46
noncomputable def CanonForm_n48 : Code := cR CanonForm_n46
noncomputable def CanonForm_n49 : Code := cL CanonForm_n47
noncomputable def CanonForm_n50 : Code := cR CanonForm_n47
noncomputable def CanonForm_n51 : Code := cL CanonForm_n50
noncomputable def CanonForm_n52 : Code := cR CanonForm_n50
noncomputable def CanonForm_n53 : Code := cL CanonForm_n52
noncomputable def CanonForm_n54 : Code := cR CanonForm_n52
noncomputable def CanonForm_n55 : Code := cL CanonForm_n31
noncomputable def CanonForm_n56 : Code := cR CanonForm_n31
noncomputable def CanonForm_n57 : Code := cL CanonForm_n8
noncomputable def CanonForm_n58 : Code := cR CanonForm_n8
noncomputable def CanonForm_n59 : Code := cL CanonForm_n58
noncomputable def CanonForm_n60 : Code := cR CanonForm_n58
noncomputable def CanonForm_n61 : Code := cL CanonForm_n60
noncomputable def CanonForm_n62 : Code := cR CanonForm_n60
noncomputable def CanonForm_n63 : Code := cL CanonForm_n62
noncomputable def CanonForm_n64 : Code := cR CanonForm_n62
noncomputable def CanonForm_n65 : Code := cL CanonForm_n64
noncomputable def CanonForm_n66 : Code := cR CanonForm_n64
noncomputable def CanonForm_n67 : Code := cL CanonForm_n65
noncomputable def CanonForm_n68 : Code := cR CanonForm_n65
noncomputable def CanonForm_n69 : Code := cL CanonForm_n68
noncomputable def CanonForm_n70 : Code := cL CanonForm_n69
noncomputable def CanonForm_n71 : Code := cL CanonForm_n70
noncomputable def CanonForm_n72 : Code := cR CanonForm_n70
noncomputable def CanonForm_n73 : Code := cL CanonForm_n72
noncomputable def CanonForm_n74 : Code := cR CanonForm_n72
noncomputable def CanonForm_n75 : Code := cL CanonForm_n73
noncomputable def CanonForm_n76 : Code := cR CanonForm_n73
noncomputable def CanonForm_n77 : Code := cL CanonForm_n74
noncomputable def CanonForm_n78 : Code := cR CanonForm_n74
noncomputable def CanonForm_n79 : Code := cL CanonForm_n77
noncomputable def CanonForm_n80 : Code := cL CanonForm_n79
noncomputable def CanonForm_n81 : Code := cR CanonForm_n79
noncomputable def CanonForm_n82 : Code := cL CanonForm_n81
noncomputable def CanonForm_n83 : Code := cR CanonForm_n81
noncomputable def CanonForm_n84 : Code := cL CanonForm_n82
noncomputable def CanonForm_n85 : Code := cR CanonForm_n82
noncomputable def CanonForm_n86 : Code := cL CanonForm_n85
noncomputable def CanonForm_n87 : Code := cL CanonForm_n86
noncomputable def CanonForm_n88 : Code := cL CanonForm_n87
noncomputable def CanonForm_n89 : Code := cR CanonForm_n87
noncomputable def CanonForm_n90 : Code := cL CanonForm_n88
noncomputable def CanonForm_n91 : Code := cR CanonForm_n88
noncomputable def CanonForm_n92 : Code := cL CanonForm_n91
noncomputable def CanonForm_n93 : Code := cR CanonForm_n91
noncomputable def CanonForm_n94 : Code := cL CanonForm_n89
noncomputable def CanonForm_n95 : Code := cR CanonForm_n89
noncomputable def CanonForm_n96 : Code := cL CanonForm_n94
noncomputable def CanonForm_n97 : Code := cL CanonForm_n96
noncomputable def CanonForm_n98 : Code := cR CanonForm_n96
noncomputable def CanonForm_n99 : Code := cL CanonForm_n98
noncomputable def CanonForm_n100 : Code := cR CanonForm_n98
noncomputable def CanonForm_n101 : Code := cL CanonForm_n83
noncomputable def CanonForm_n102 : Code := cR CanonForm_n83
noncomputable def CanonForm_n103 : Code := cL CanonForm_n102
noncomputable def CanonForm_n104 : Code := cR CanonForm_n102
noncomputable def CanonForm_n105 : Code := cL CanonForm_n104
noncomputable def CanonForm_n106 : Code := cL CanonForm_n105
noncomputable def CanonForm_n107 : Code := cL CanonForm_n106
noncomputable def CanonForm_n108 : Code := cR CanonForm_n106
noncomputable def CanonForm_n109 : Code := cL CanonForm_n107
noncomputable def CanonForm_n110 : Code := cR CanonForm_n107
noncomputable def CanonForm_n111 : Code := cL CanonForm_n110
noncomputable def CanonForm_n112 : Code := cR CanonForm_n110
noncomputable def CanonForm_n113 : Code := cL CanonForm_n108
noncomputable def CanonForm_n114 : Code := cR CanonForm_n108
noncomputable def CanonForm_n115 : Code := cL CanonForm_n113
noncomputable def CanonForm_n116 : Code := cL CanonForm_n115
noncomputable def CanonForm_n117 : Code := cR CanonForm_n115
noncomputable def CanonForm_n118 : Code := cL CanonForm_n117
noncomputable def CanonForm_n119 : Code := cR CanonForm_n117
noncomputable def CanonForm_n120 : Code := cL CanonForm_n119
noncomputable def CanonForm_n121 : Code := cR CanonForm_n119
noncomputable def CanonForm_n122 : Code := cL CanonForm_n120
noncomputable def CanonForm_n123 : Code := cR CanonForm_n120
noncomputable def CanonForm_n124 : Code := cL CanonForm_n123
noncomputable def CanonForm_n125 : Code := cL CanonForm_n124
noncomputable def CanonForm_n126 : Code := cL CanonForm_n125
noncomputable def CanonForm_n127 : Code := cR CanonForm_n125
noncomputable def CanonForm_n128 : Code := cL CanonForm_n126
noncomputable def CanonForm_n129 : Code := cR CanonForm_n126
noncomputable def CanonForm_n130 : Code := cL CanonForm_n129
noncomputable def CanonForm_n131 : Code := cR CanonForm_n129
noncomputable def CanonForm_n132 : Code := cL CanonForm_n127
noncomputable def CanonForm_n133 : Code := cR CanonForm_n127
noncomputable def CanonForm_n134 : Code := cL CanonForm_n132
noncomputable def CanonForm_n135 : Code := cL CanonForm_n134
noncomputable def CanonForm_n136 : Code := cR CanonForm_n134
noncomputable def CanonForm_n137 : Code := cL CanonForm_n136
noncomputable def CanonForm_n138 : Code := cR CanonForm_n136
noncomputable def CanonForm_n139 : Code := cL CanonForm_n137
noncomputable def CanonForm_n140 : Code := cR CanonForm_n137
noncomputable def CanonForm_n141 : Code := cL CanonForm_n140
noncomputable def CanonForm_n142 : Code := cR CanonForm_n140
noncomputable def CanonForm_n143 : Code := cL CanonForm_n141
noncomputable def CanonForm_n144 : Code := cR CanonForm_n141
noncomputable def CanonForm_n145 : Code := cL CanonForm_n66
noncomputable def CanonForm_n146 : Code := cR CanonForm_n66
set_option maxHeartbeats 4000000 in
set_option maxRecDepth 10000 in
theorem CanonForm_t {w : World} {M : Hp} {X : Fr} (d : Dg) {dcrsA : Option Addr} {dcrsc : Nat} (hdcrs : RdA cdCr (M.un X.h) dcrsA dcrsc d.crs) (hn : d.crs.length ≤ 16) (hab : arcsB d = true) (S : SH w M X []) : Ct Try.prog 13 [.agg [.slice dcrsA d.crs.length dcrsc, .int .i64 d.loops].toArray] w M X (fun u N => ∃ A c, u = .agg [.slice A (canD d).crs.length c, .int .i64 (canD d).loops].toArray ∧ RdA cdCr N A c (canD d).crs) := by
 unfold Ct
 have rmhdcrs : d.crs.length * 40 ≤ 140737488355328 := hdcrs.room
 have hwl : (whoL d).length = d.crs.length := rndsW_len d _
 refine calls_in (b := CanonForm_n0) Try.func13 rfl Try.ntmps13 rfl (fun C hC => ?_)
 refine ws_sub [(0, _)] ⟨rfl, trivial⟩ ?_
 refine ws_seqN CanonForm_n1 CanonForm_n2 rfl rfl rfl ?_
 refine ws_region rfl ?_
 refine wlo 0 1 rfl rfl rfl (wo_box (l := [_, _]) rfl rfl rfl rfl rfl S ?_)
 intro gb1 w1 S1; clear S
 refine wlo 1 2 rfl rfl rfl (wo_alloc (l := [_, _]) rfl rfl rfl zr24 rfl S1 ?_)
 intro gb2 w2 S2; clear S1
 refine wl_end rfl ?_
 refine nm_sub [(1, _), (2, _)] ⟨rfl, rfl, trivial⟩ ?_
 refine nm_thn ?_
 refine ws_seqN CanonForm_n3 CanonForm_n4 rfl rfl rfl ?_
 refine ws_region rfl ?_
 refine wlo 0 1 rfl rfl rfl (wo_run rfl rfl (run_loadN (us := [_, _]) rfl rfl Try.underlying24 rfl sz24 (S2.boxcs (i := 1) rfl ⟨rfl, rfl, trivial⟩)) ?_)
 refine wlo 1 2 rfl rfl rfl (wo_ct rfl rfl rfl rfl rfl rfl rfl cf32 S2 (PiecesOf_t d (hdcrs.mono S2.un_XH) (hn) (hab) S2.lend) ?_)
 intro vw3 w3 M1 hle1 S3 hRw3; clear S2
 replace hdcrs := hdcrs.mono (Hp.un_mono hle1 S3.mx)
 obtain ⟨A1, c1, rfl, hr1⟩ := hRw3
 refine wla 2 3 rfl rfl rfl rfl rfl rfl rfl ?_
 refine wl_end rfl ?_
 refine nm_sub [(1, _), (2, _), (3, _)] ⟨rfl, rfl, rfl, trivial⟩ ?_
 refine nm_thn ?_
 refine ws_seqN CanonForm_n5 CanonForm_n6 rfl rfl rfl ?_
 refine ws_region rfl ?_
 refine wla 0 1 rfl rfl rfl rfl rfl rfl rfl ?_
 refine wla 1 2 rfl rfl rfl rfl rfl rfl rfl ?_
 refine wl_end rfl ?_
 refine nm_thn ?_
 refine ws_seqN CanonForm_n7 CanonForm_n8 rfl rfl rfl ?_
 refine ws_seqN CanonForm_n9 CanonForm_n10 rfl rfl rfl ?_
 refine ws_region rfl ?_
 refine wla 0 1 rfl rfl rfl rfl rfl rfl rfl ?_
 refine wl_end rfl ?_
 refine nm_thn ?_
 refine ws_blockN CanonForm_n11 0 rfl rfl rfl ?_
 have S4 := S3.nilrow (cdV 33); clear S3
 have S5 := S4.nilrow (cdV 33); clear S4
 refine ws_loopE (fun mx_ ax_ wx_ => ∃ (p : Nat) (cv : List SlV) (cxs : List (List Int)) (ov : List SlV) (oxs : List (List Int)) (vrcv : Value) (vrov : Value) (M2 : Hp), M1.le M2 ∧ mx_ = d.crs.length - p ∧ Env 187 [(1, .pointer (some ⟨gb1, 0, none⟩)), (2, .pointer (some ⟨gb2, 0, none⟩)), (3, .slice A1 (whoL d).length c1), (4, vrcv), (5, vrov), (6, .int .i64 (p : Int))] ax_ ∧ SH wx_ M2 X [Rs.row (cdV 33) vrov ov, Rs.row (cdV 33) vrcv cv, Rs.box gb2 24 [.slice none 0 0, .int .i64 0], Rs.box gb1 24 [.slice dcrsA d.crs.length dcrsc, .int .i64 d.loops]] ∧ p ≤ d.crs.length ∧ cxs = List.map Prod.snd ((ksD d).take (rtC d p)) ∧ oxs = List.map Prod.fst ((ksD d).take (rtC d p)) ∧ Rd2 cdInt M2 cv cxs ∧ Rd2 cdInt M2 ov oxs) rfl ?_ ?_
 ·intro ax_ hax_
  refine ⟨_, ⟨0, _, ([]), _, ([]), _, _, _, Hp.le_refl _, rfl, hax_.sub ⟨rfl, rfl, rfl, rfl, rfl, rfl, trivial⟩, S5.pick [0, 1, 2, 3] [_, _, _, _] (by decide) ⟨rfl, rfl, rfl, rfl, trivial⟩, ?hq1f0, ?hq1f1, ?hq1f2, ?hq1f3, ?hq1f4⟩⟩
  case hq1f0 => omega
  case hq1f1 => rfl
  case hq1f2 => rfl
  case hq1f3 => exact Rd2.nil_
  case hq1f4 => exact Rd2.nil_
 ·rintro m1 a1 w4 ⟨p, cv, cxs, ov, oxs, vrcv, vrov, M2, hle2, rfl, he1, S6, hp, hcx, hox, hcv, hov⟩
  clear S5
  refine ws_in he1 (c := CanonForm_n12) rfl ?_
  clear he1 a1
  replace hdcrs := hdcrs.mono (Hp.un_mono hle2 S6.mx)
  replace hr1 := hr1.mono hle2
  have hcvl := hcv.1
  have hovl := hov.1
  have hrc : rtC d p ≤ p := cn_le _ _
  have hcxl : cxs.length ≤ p := by rw [hcx, List.length_map, List.length_take]; omega
  have hoxl : oxs.length ≤ p := by rw [hox, List.length_map, List.length_take]; omega
  refine ws_seqN CanonForm_n13 CanonForm_n14 rfl rfl rfl ?_
  refine ws_seqN CanonForm_n15 CanonForm_n16 rfl rfl rfl ?_
  refine ws_region rfl ?_
  refine wlm 0 1 rfl rfl rfl rfl rfl rfl rfl ?_
  refine wlm 1 2 rfl rfl rfl rfl rfl rfl rfl ?_
  refine wlo 2 3 rfl rfl rfl (wo_run rfl rfl (run_len rfl rfl rfl rfl rfl rfl Try.underlying33) ?_)
  refine wlo 3 4 rfl rfl rfl (wo_run rfl rfl (run_lss rfl rfl rfl) ?_)
  refine wl_end rfl ?_
  refine nm_sub [(1, _), (2, _), (3, _), (4, _), (5, _), (6, _), (28, _)] ⟨rfl, rfl, rfl, rfl, rfl, rfl, rfl, trivial⟩ ?_
  refine nm_thn ?_
  refine ws_condN CanonForm_n17 CanonForm_n18 rfl rfl rfl rfl (fun hb28 => ?_) (fun hb28 => ?_)
  ·replace hb28 := of_decide_eq_true hb28
   refine ws_skip rfl ?_
   refine nm_sub [(1, _), (2, _), (3, _), (4, _), (5, _), (6, _)] ⟨rfl, rfl, rfl, rfl, rfl, rfl, trivial⟩ ?_
   refine nm_thn ?_
   refine ws_seqN CanonForm_n19 CanonForm_n20 rfl rfl rfl ?_
   refine ws_blockN CanonForm_n21 1 rfl rfl rfl ?_
   refine ws_seqN CanonForm_n22 CanonForm_n23 rfl rfl rfl ?_
   refine ws_seqN CanonForm_n24 CanonForm_n25 rfl rfl rfl ?_
   refine ws_region rfl ?_
   refine wlm 0 1 rfl rfl rfl rfl rfl rfl rfl ?_
   refine wlm 1 2 rfl rfl rfl rfl rfl rfl rfl ?_
   refine wlo 2 3 rfl rfl rfl (wo_run rfl rfl (run_indexM (C := cdInt) p rfl rfl rfl sl33 (by first | rfl | omega) hr1 (by first | omega | (simp only [lens]; omega))) ?_)
   refine wlo 3 4 rfl rfl rfl (wo_run rfl rfl (run_load1 rfl rfl Try.underlying3 rfl (hr1.cell S6.m (i := p) (by first | omega | (simp only [lens]; omega)) 0 rfl rfl)) ?_)
   refine wlm 4 5 rfl rfl rfl rfl rfl rfl rfl ?_
   refine wlo 5 6 rfl rfl rfl (wo_run rfl rfl (run_neq rfl rfl rfl) ?_)
   refine wl_end rfl ?_
   refine nm_sub [(1, _), (2, _), (3, _), (4, _), (5, _), (6, _), (36, _)] ⟨rfl, rfl, rfl, rfl, rfl, rfl, rfl, trivial⟩ ?_
   refine nm_thn ?_
   refine ws_condN CanonForm_n26 CanonForm_n27 rfl rfl rfl rfl (fun hb36 => ?_) (fun hb36 => ?_)
   ·replace hb36 := of_decide_eq_true hb36
    refine ws_exit rfl rfl ?_
    refine nm_sub [(1, _), (2, _), (3, _), (4, _), (5, _), (6, _)] ⟨rfl, rfl, rfl, rfl, rfl, rfl, trivial⟩ ?_
    refine nm_thn ?_
    refine ws_region rfl ?_
    refine wlm 0 1 rfl rfl rfl rfl rfl rfl rfl ?_
    refine wlo 1 2 rfl rfl rfl (wo_run rfl rfl (run_add rfl rfl rfl (by first | omega | (simp only [lens]; omega))) ?_)
    refine wla 2 3 rfl rfl rfl rfl rfl rfl rfl ?_
    refine wl_end rfl ?_
    refine nm_lp ?_
    intro ax_ hax_
    refine ⟨_, ?hq2m, ⟨p + 1, _, cxs, _, oxs, _, _, _, (hle2), rfl, hax_.sub ⟨rfl, rfl, rfl, rfl, rfl, rfl, trivial⟩, S6.pick [0, 1, 2, 3] [_, _, _, _] (by decide) ⟨rfl, rfl, rfl, rfl, trivial⟩, ?hq2f0, ?hq2f1, ?hq2f2, ?hq2f3, ?hq2f4⟩⟩
    case hq2f0 => omega
    case hq2f1 => first | (rw [rtC_skip hb36]; exact hcx) | (obtain rfl : i = d.crs.length := (by omega); rw [← hbi.fin hab (by omega) hb36r, List.map_append, ← hcx]; rfl)
    case hq2f2 => first | (rw [rtC_skip hb36]; exact hox) | (obtain rfl : i = d.crs.length := (by omega); rw [← hbi.fin hab (by omega) hb36r, List.map_append, ← hox]; rfl)
    case hq2f3 => exact hcv
    case hq2f4 => exact hov
    case hq2m => omega
   ·replace hb36 := of_decide_eq_false hb36
    have hb36r := Classical.not_not.1 hb36
    refine ws_skip rfl ?_
    refine nm_sub [(1, _), (2, _), (3, _), (4, _), (5, _), (6, _)] ⟨rfl, rfl, rfl, rfl, rfl, rfl, trivial⟩ ?_
    refine nm_thn ?_
    refine ws_seqN CanonForm_n28 CanonForm_n29 rfl rfl rfl ?_
    refine ws_region rfl ?_
    refine wla 0 1 rfl rfl rfl rfl rfl rfl rfl ?_
    refine wla 1 2 rfl rfl rfl rfl rfl rfl rfl ?_
    refine wl_end rfl ?_
    refine nm_thn ?_
    refine ws_seqN CanonForm_n30 CanonForm_n31 rfl rfl rfl ?_
    refine ws_seqN CanonForm_n32 CanonForm_n33 rfl rfl rfl ?_
    refine ws_region rfl ?_
    refine wla 0 1 rfl rfl rfl rfl rfl rfl rfl ?_
    refine wl_end rfl ?_
    refine nm_thn ?_
    refine ws_blockN CanonForm_n34 2 rfl rfl rfl ?_
    refine ws_loopE (fun mx_ ax_ wx_ => ∃ (i : Nat) (cA : Option Addr) (cx : List Int) (cc : Nat) (oA2 : Option Addr) (ox : List Int) (oc2 : Nat) (M3 : Hp), M2.le M3 ∧ mx_ = d.crs.length - i ∧ Env 187 [(1, .pointer (some ⟨gb1, 0, none⟩)), (2, .pointer (some ⟨gb2, 0, none⟩)), (3, .slice A1 (whoL d).length c1), (4, vrcv), (5, vrov), (6, .int .i64 (p : Int)), (7, .slice cA cx.length cc), (8, .slice oA2 ox.length oc2), (9, .int .i64 (i : Int))] ax_ ∧ SH wx_ M3 X [Rs.row (cdV 33) vrov ov, Rs.row (cdV 33) vrcv cv, Rs.box gb2 24 [.slice none 0 0, .int .i64 0], Rs.box gb1 24 [.slice dcrsA d.crs.length dcrsc, .int .i64 d.loops]] ∧ i ≤ d.crs.length ∧ RdA cdInt M3 cA cc cx ∧ RdA cdInt M3 oA2 oc2 ox ∧ BstI d p i cx ox) rfl ?_ ?_
    ·intro ax_ hax_
     refine ⟨_, ⟨0, none, [], 0, none, [], 0, _, Hp.le_refl _, rfl, hax_.sub ⟨rfl, rfl, rfl, rfl, rfl, rfl, rfl, rfl, rfl, trivial⟩, S6.pick [0, 1, 2, 3] [_, _, _, _] (by decide) ⟨rfl, rfl, rfl, rfl, trivial⟩, ?hq3f0, ?hq3f1, ?hq3f2, ?hq3f3⟩⟩
     case hq3f0 => omega
     case hq3f1 => exact RdA.nil_
     case hq3f2 => exact RdA.nil_
     case hq3f3 => exact .inl ⟨rfl, rfl, rfl⟩
    ·rintro m2 a2 w5 ⟨i, cA, cx, cc, oA2, ox, oc2, M3, hle3, rfl, he2, S7, hi, hcxr, hoxr, hbi⟩
     clear S6
     refine ws_in he2 (c := CanonForm_n35) rfl ?_
     clear he2 a2
     replace hdcrs := hdcrs.mono (Hp.un_mono hle3 S7.mx)
     replace hr1 := hr1.mono hle3
     replace hcv := hcv.mono hle3
     replace hov := hov.mono hle3
     have rmcx := hcxr.room
     have rmox := hoxr.room
     refine ws_seqN CanonForm_n36 CanonForm_n37 rfl rfl rfl ?_
     refine ws_seqN CanonForm_n38 CanonForm_n39 rfl rfl rfl ?_
     refine ws_region rfl ?_
     refine wlm 0 1 rfl rfl rfl rfl rfl rfl rfl ?_
     refine wlm 1 2 rfl rfl rfl rfl rfl rfl rfl ?_
     refine wlo 2 3 rfl rfl rfl (wo_run rfl rfl (run_len rfl rfl rfl rfl rfl rfl Try.underlying33) ?_)
     refine wlo 3 4 rfl rfl rfl (wo_run rfl rfl (run_lss rfl rfl rfl) ?_)
     refine wl_end rfl ?_
     refine nm_sub [(1, _), (2, _), (3, _), (4, _), (5, _), (6, _), (7, _), (8, _), (9, _), (40, _)] ⟨rfl, rfl, rfl, rfl, rfl, rfl, rfl, rfl, rfl, rfl, trivial⟩ ?_
     refine nm_thn ?_
     refine ws_condN CanonForm_n40 CanonForm_n41 rfl rfl rfl rfl (fun hb40 => ?_) (fun hb40 => ?_)
     ·replace hb40 := of_decide_eq_true hb40
      refine ws_skip rfl ?_
      refine nm_sub [(1, _), (2, _), (3, _), (4, _), (5, _), (6, _), (7, _), (8, _), (9, _)] ⟨rfl, rfl, rfl, rfl, rfl, rfl, rfl, rfl, rfl, trivial⟩ ?_
      refine nm_thn ?_
      refine ws_seqN CanonForm_n42 CanonForm_n43 rfl rfl rfl ?_
      refine ws_blockN CanonForm_n44 3 rfl rfl rfl ?_
      refine ws_seqN CanonForm_n45 CanonForm_n46 rfl rfl rfl ?_
      refine ws_region rfl ?_
      refine wlm 0 1 rfl rfl rfl rfl rfl rfl rfl ?_
      refine wlm 1 2 rfl rfl rfl rfl rfl rfl rfl ?_
      refine wlo 2 3 rfl rfl rfl (wo_run rfl rfl (run_indexM (C := cdInt) i rfl rfl rfl sl33 (by first | rfl | omega) hr1 (by first | omega | (simp only [lens]; omega))) ?_)
      refine wlo 3 4 rfl rfl rfl (wo_run rfl rfl (run_load1 rfl rfl Try.underlying3 rfl (hr1.cell S7.m (i := i) (by first | omega | (simp only [lens]; omega)) 0 rfl rfl)) ?_)
      refine wlm 4 5 rfl rfl rfl rfl rfl rfl rfl ?_
      refine wlo 5 6 rfl rfl rfl (wo_run rfl rfl (run_eql rfl rfl rfl) ?_)
      refine wl_end rfl ?_
      refine nm_sub [(1, _), (2, _), (3, _), (4, _), (5, _), (6, _), (7, _), (8, _), (9, _), (48, _)] ⟨rfl, rfl, rfl, rfl, rfl, rfl, rfl, rfl, rfl, rfl, trivial⟩ ?_
      refine nm_thn ?_
      refine ws_condN CanonForm_n47 CanonForm_n48 rfl rfl rfl rfl (fun hb48 => ?_) (fun hb48 => ?_)
      ·replace hb48 := of_decide_eq_true hb48
       refine ws_seqN CanonForm_n49 CanonForm_n50 rfl rfl rfl ?_
       refine ws_region rfl ?_
       refine wlo 0 1 rfl rfl rfl (wo_run rfl rfl (run_loadN (us := [_, _]) rfl rfl Try.underlying24 rfl sz24 (S7.boxcs (i := 3) rfl ⟨rfl, rfl, trivial⟩)) ?_)
       refine wlm 1 2 rfl rfl rfl rfl rfl rfl rfl ?_
       refine wlo 2 3 rfl rfl rfl (wo_ct rfl rfl rfl rfl rfl rfl rfl cf33 S7 (codeFrom_t d i (hdcrs.mono S7.un_XH) (hn) (hab) ((by omega)) S7.lend) ?_)
       intro vw6 w6 M4 hle4 S8 hRw6; clear S7
       replace hdcrs := hdcrs.mono (Hp.un_mono hle4 S8.mx)
       replace hr1 := hr1.mono hle4
       replace hcv := hcv.mono hle4
       replace hov := hov.mono hle4
       replace hcxr := hcxr.mono hle4
       replace hoxr := hoxr.mono hle4
       obtain ⟨A2, c2, B1, e1, rfl, hr2, hr3⟩ := hRw6
       refine wlm 3 4 rfl rfl rfl rfl rfl rfl rfl ?_
       refine wlo 4 5 rfl rfl rfl (wo_run rfl rfl (run_extract rfl rfl rfl) ?_)
       refine wlo 5 6 rfl rfl rfl (wo_run rfl rfl (run_extract rfl rfl rfl) ?_)
       refine wla 6 7 rfl rfl rfl rfl rfl rfl rfl ?_
       refine wla 7 8 rfl rfl rfl rfl rfl rfl rfl ?_
       refine wl_end rfl ?_
       refine nm_sub [(1, _), (2, _), (3, _), (4, _), (5, _), (6, _), (7, _), (8, _), (9, _), (10, _), (11, _)] ⟨rfl, rfl, rfl, rfl, rfl, rfl, rfl, rfl, rfl, rfl, rfl, trivial⟩ ?_
       refine nm_thn ?_
       refine ws_seqN CanonForm_n51 CanonForm_n52 rfl rfl rfl ?_
       refine ws_region rfl ?_
       refine wlm 0 1 rfl rfl rfl rfl rfl rfl rfl ?_
       refine wlo 1 2 rfl rfl rfl (wo_run rfl rfl (run_len rfl rfl rfl rfl rfl rfl Try.underlying33) ?_)
       refine wlo 2 3 rfl rfl rfl (wo_run rfl rfl (run_eql rfl rfl rfl) ?_)
       refine wlm 3 4 rfl rfl rfl rfl rfl rfl rfl ?_
       refine wl_split (t := 58) rfl (fun hg58 => ?_) (fun hg58 => ?_)
       ·replace hg58 := of_decide_eq_true hg58
        refine wl_no (k := 4) (k' := 5) (d := 59) rfl rfl ⟨_, _, _, rfl, rfl, rfl, rfl⟩ rfl rfl ?_
        refine wl_no (k := 5) (k' := 6) (d := 60) rfl rfl ⟨_, _, _, rfl, rfl, rfl, rfl⟩ rfl rfl ?_
        refine wl_no (k := 6) (k' := 7) (d := 61) rfl rfl ⟨_, _, _, rfl, rfl, rfl, rfl⟩ rfl rfl ?_
        refine wlo 7 8 rfl rfl rfl (wo_run rfl rfl (run_pickT rfl rfl rfl) ?_)
        refine wl_end rfl ?_
        refine nm_sub [(1, _), (2, _), (3, _), (4, _), (5, _), (6, _), (7, _), (8, _), (9, _), (10, _), (11, _), (62, _)] ⟨rfl, rfl, rfl, rfl, rfl, rfl, rfl, rfl, rfl, rfl, rfl, rfl, trivial⟩ ?_
        refine nm_thn ?_
        refine ws_condTN CanonForm_n53 rfl rfl rfl ?_
        refine ws_region rfl ?_
        refine wlm 0 1 rfl rfl rfl rfl rfl rfl rfl ?_
        refine wlm 1 2 rfl rfl rfl rfl rfl rfl rfl ?_
        refine wla 2 3 rfl rfl rfl rfl rfl rfl rfl ?_
        refine wla 3 4 rfl rfl rfl rfl rfl rfl rfl ?_
        refine wl_end rfl ?_
        refine nm_blk ?_
        refine nm_sub [(1, _), (2, _), (3, _), (4, _), (5, _), (6, _), (7, _), (8, _), (9, _)] ⟨rfl, rfl, rfl, rfl, rfl, rfl, rfl, rfl, rfl, trivial⟩ ?_
        refine nm_thn ?_
        refine ws_region rfl ?_
        refine wlm 0 1 rfl rfl rfl rfl rfl rfl rfl ?_
        refine wlo 1 2 rfl rfl rfl (wo_run rfl rfl (run_add rfl rfl rfl (by first | omega | (simp only [lens]; omega))) ?_)
        refine wla 2 3 rfl rfl rfl rfl rfl rfl rfl ?_
        refine wl_end rfl ?_
        refine nm_lp ?_
        intro ax_ hax_
        refine ⟨_, ?hq4m, ⟨i + 1, A2, ((cfE d i).co), c2, B1, ((cfE d i).od), e1, _, (hle3.trans hle4), rfl, hax_.sub ⟨rfl, rfl, rfl, rfl, rfl, rfl, rfl, rfl, rfl, trivial⟩, S8.pick [0, 1, 2, 3] [_, _, _, _] (by decide) ⟨rfl, rfl, rfl, rfl, trivial⟩, ?hq4f0, ?hq4f1, ?hq4f2, ?hq4f3⟩⟩
        case hq4f0 => omega
        case hq4f1 => exact hr2
        case hq4f2 => exact hr3
        case hq4f3 => first | exact hbi.skip hb48 | exact hbi.first hab hb48 (by omega) (by omega) | exact hbi.less hb48 (by omega) (by omega) hb62 | exact hbi.stay hb48 (by omega) (by simpa using hb62)
        case hq4m => omega
       ·replace hg58 := of_decide_eq_false hg58
        refine wl_opG (k := 4) (k' := 5) rfl rfl ⟨_, _, _, rfl, rfl, rfl, rfl⟩ rfl (wo_run rfl rfl (run_move rfl rfl) ?_)
        refine wl_opG (k := 5) (k' := 6) rfl rfl ⟨_, _, _, rfl, rfl, rfl, rfl⟩ rfl (wo_run rfl rfl (run_move rfl rfl) ?_)
        refine wl_opG (k := 6) (k' := 7) rfl rfl ⟨_, _, _, rfl, rfl, rfl, rfl⟩ rfl (wo_cq rfl rfl rfl rfl rfl rfl rfl cf34 S8 (lessCode_q ((cfE d i).co) cx (hr2.mono (Hp.le_un _ _)) (hcxr.mono (Hp.le_un _ _)) S8.lend) ?_)
        rintro _ w7 S9 rfl; clear S8
        refine wlo 7 8 rfl rfl rfl (wo_run rfl rfl (run_pickF rfl rfl rfl) ?_)
        refine wl_end rfl ?_
        refine nm_sub [(1, _), (2, _), (3, _), (4, _), (5, _), (6, _), (7, _), (8, _), (9, _), (10, _), (11, _), (62, _)] ⟨rfl, rfl, rfl, rfl, rfl, rfl, rfl, rfl, rfl, rfl, rfl, rfl, trivial⟩ ?_
        refine nm_thn ?_
        refine ws_condN CanonForm_n53 CanonForm_n54 rfl rfl rfl rfl (fun hb62 => ?_) (fun hb62 => ?_)
        ·refine ws_region rfl ?_
         refine wlm 0 1 rfl rfl rfl rfl rfl rfl rfl ?_
         refine wlm 1 2 rfl rfl rfl rfl rfl rfl rfl ?_
         refine wla 2 3 rfl rfl rfl rfl rfl rfl rfl ?_
         refine wla 3 4 rfl rfl rfl rfl rfl rfl rfl ?_
         refine wl_end rfl ?_
         refine nm_blk ?_
         refine nm_sub [(1, _), (2, _), (3, _), (4, _), (5, _), (6, _), (7, _), (8, _), (9, _)] ⟨rfl, rfl, rfl, rfl, rfl, rfl, rfl, rfl, rfl, trivial⟩ ?_
         refine nm_thn ?_
         refine ws_region rfl ?_
         refine wlm 0 1 rfl rfl rfl rfl rfl rfl rfl ?_
         refine wlo 1 2 rfl rfl rfl (wo_run rfl rfl (run_add rfl rfl rfl (by first | omega | (simp only [lens]; omega))) ?_)
         refine wla 2 3 rfl rfl rfl rfl rfl rfl rfl ?_
         refine wl_end rfl ?_
         refine nm_lp ?_
         intro ax_ hax_
         refine ⟨_, ?hq5m, ⟨i + 1, A2, ((cfE d i).co), c2, B1, ((cfE d i).od), e1, _, (hle3.trans hle4), rfl, hax_.sub ⟨rfl, rfl, rfl, rfl, rfl, rfl, rfl, rfl, rfl, trivial⟩, S9.pick [0, 1, 2, 3] [_, _, _, _] (by decide) ⟨rfl, rfl, rfl, rfl, trivial⟩, ?hq5f0, ?hq5f1, ?hq5f2, ?hq5f3⟩⟩
         case hq5f0 => omega
         case hq5f1 => exact hr2
         case hq5f2 => exact hr3
         case hq5f3 => first | exact hbi.skip hb48 | exact hbi.first hab hb48 (by omega) (by omega) | exact hbi.less hb48 (by omega) (by omega) hb62 | exact hbi.stay hb48 (by omega) (by simpa using hb62)
         case hq5m => omega
        ·refine ws_skip rfl ?_
         refine nm_blk ?_
         refine nm_sub [(1, _), (2, _), (3, _), (4, _), (5, _), (6, _), (7, _), (8, _), (9, _)] ⟨rfl, rfl, rfl, rfl, rfl, rfl, rfl, rfl, rfl, trivial⟩ ?_
         refine nm_thn ?_
         refine ws_region rfl ?_
         refine wlm 0 1 rfl rfl rfl rfl rfl rfl rfl ?_
         refine wlo 1 2 rfl rfl rfl (wo_run rfl rfl (run_add rfl rfl rfl (by first | omega | (simp only [lens]; omega))) ?_)
         refine wla 2 3 rfl rfl rfl rfl rfl rfl rfl ?_
         refine wl_end rfl ?_
         refine nm_lp ?_
         intro ax_ hax_
         refine ⟨_, ?hq6m, ⟨i + 1, cA, cx, cc, oA2, ox, oc2, _, (hle3.trans hle4), rfl, hax_.sub ⟨rfl, rfl, rfl, rfl, rfl, rfl, rfl, rfl, rfl, trivial⟩, S9.pick [0, 1, 2, 3] [_, _, _, _] (by decide) ⟨rfl, rfl, rfl, rfl, trivial⟩, ?hq6f0, ?hq6f1, ?hq6f2, ?hq6f3⟩⟩
         case hq6f0 => omega
         case hq6f1 => exact hcxr
         case hq6f2 => exact hoxr
         case hq6f3 => first | exact hbi.skip hb48 | exact hbi.first hab hb48 (by omega) (by omega) | exact hbi.less hb48 (by omega) (by omega) hb62 | exact hbi.stay hb48 (by omega) (by simpa using hb62)
         case hq6m => omega
      ·replace hb48 := of_decide_eq_false hb48
       refine ws_skip rfl ?_
       refine nm_blk ?_
       refine nm_sub [(1, _), (2, _), (3, _), (4, _), (5, _), (6, _), (7, _), (8, _), (9, _)] ⟨rfl, rfl, rfl, rfl, rfl, rfl, rfl, rfl, rfl, trivial⟩ ?_
       refine nm_thn ?_
       refine ws_region rfl ?_
       refine wlm 0 1 rfl rfl rfl rfl rfl rfl rfl ?_
       refine wlo 1 2 rfl rfl rfl (wo_run rfl rfl (run_add rfl rfl rfl (by first | omega | (simp only [lens]; omega))) ?_)
       refine wla 2 3 rfl rfl rfl rfl rfl rfl rfl ?_
       refine wl_end rfl ?_
       refine nm_lp ?_
       intro ax_ hax_
       refine ⟨_, ?hq7m, ⟨i + 1, cA, cx, cc, oA2, ox, oc2, _, (hle3), rfl, hax_.sub ⟨rfl, rfl, rfl, rfl, rfl, rfl, rfl, rfl, rfl, trivial⟩, S7.pick [0, 1, 2, 3] [_, _, _, _] (by decide) ⟨rfl, rfl, rfl, rfl, trivial⟩, ?hq7f0, ?hq7f1, ?hq7f2, ?hq7f3⟩⟩
       case hq7f0 => omega
       case hq7f1 => exact hcxr
       case hq7f2 => exact hoxr
       case hq7f3 => first | exact hbi.skip hb48 | exact hbi.first hab hb48 (by omega) (by omega) | exact hbi.less hb48 (by omega) (by omega) hb62 | exact hbi.stay hb48 (by omega) (by simpa using hb62)
       case hq7m => omega
     ·replace hb40 := of_decide_eq_false hb40
      refine ws_exit rfl rfl ?_
      refine nm_sub [(1, _), (2, _), (3, _), (4, _), (5, _), (6, _), (7, _), (8, _)] ⟨rfl, rfl, rfl, rfl, rfl, rfl, rfl, rfl, trivial⟩ ?_
      refine nm_thn ?_
      refine ws_seqN CanonForm_n55 CanonForm_n56 rfl rfl rfl ?_
      refine ws_region rfl ?_
      refine wlm 0 1 rfl rfl rfl rfl rfl rfl rfl ?_
      refine wlm 1 2 rfl rfl rfl rfl rfl rfl rfl ?_
      refine wlo 2 3 rfl rfl rfl (wo_buildSlice1 (C := (cdV 33)) (l := [_]) rfl rfl rfl rfl sl34 rfl rfl rfl rfl S7 ?_)
      intro gb3 w8 S10; clear S7
      refine wlo 3 4 rfl rfl rfl (wo_append1 (C := (cdV 33)) (i := 2) (q := 0) (⟨cA, cx.length, cc⟩ : SlV) rfl rfl rfl rfl rfl rfl rfl rfl sl34 S10 rfl rfl rfl (by show (_ + 1) * 24 ≤ _; first | omega | (simp only [lens]; omega)) ?_)
      intro vrcv1 w9 S11; clear S10
      have S12 := S11.pick [1, 2, 3, 4] [_, _, _, _] (by decide) ⟨rfl, rfl, rfl, rfl, trivial⟩; clear S11
      have hd1 := hcv.snoc (c := cc) hcxr
      refine wla 4 5 rfl rfl rfl rfl rfl rfl rfl ?_
      refine wl_end rfl ?_
      refine nm_sub [(1, _), (2, _), (3, _), (4, _), (5, _), (6, _), (8, _)] ⟨rfl, rfl, rfl, rfl, rfl, rfl, rfl, trivial⟩ ?_
      refine nm_thn ?_
      refine ws_region rfl ?_
      refine wlm 0 1 rfl rfl rfl rfl rfl rfl rfl ?_
      refine wlm 1 2 rfl rfl rfl rfl rfl rfl rfl ?_
      refine wlo 2 3 rfl rfl rfl (wo_buildSlice1 (C := (cdV 33)) (l := [_]) rfl rfl rfl rfl sl34 rfl rfl rfl rfl S12 ?_)
      intro gb4 w10 S13; clear S12
      refine wlo 3 4 rfl rfl rfl (wo_append1 (C := (cdV 33)) (i := 1) (q := 0) (⟨oA2, ox.length, oc2⟩ : SlV) rfl rfl rfl rfl rfl rfl rfl rfl sl34 S13 rfl rfl rfl (by show (_ + 1) * 24 ≤ _; first | omega | (simp only [lens]; omega)) ?_)
      intro vrov1 w11 S14; clear S13
      have S15 := S14.pick [1, 2, 3, 4] [_, _, _, _] (by decide) ⟨rfl, rfl, rfl, rfl, trivial⟩; clear S14
      have hd2 := hov.snoc (c := oc2) hoxr
      refine wla 4 5 rfl rfl rfl rfl rfl rfl rfl ?_
      refine wl_end rfl ?_
      refine nm_blk ?_
      refine nm_sub [(1, _), (2, _), (3, _), (4, _), (5, _), (6, _)] ⟨rfl, rfl, rfl, rfl, rfl, rfl, trivial⟩ ?_
      refine nm_thn ?_
      refine ws_region rfl ?_
      refine wlm 0 1 rfl rfl rfl rfl rfl rfl rfl ?_
      refine wlo 1 2 rfl rfl rfl (wo_run rfl rfl (run_add rfl rfl rfl (by first | omega | (simp only [lens]; omega))) ?_)
      refine wla 2 3 rfl rfl rfl rfl rfl rfl rfl ?_
      refine wl_end rfl ?_
      refine nm_lp ?_
      intro ax_ hax_
      refine ⟨_, ?hq8m, ⟨p + 1, _, (cxs ++ [cx]), _, (oxs ++ [ox]), _, _, _, (hle2.trans hle3), rfl, hax_.sub ⟨rfl, rfl, rfl, rfl, rfl, rfl, trivial⟩, S15.pick [0, 1, 2, 3] [_, _, _, _] (by decide) ⟨rfl, rfl, rfl, rfl, trivial⟩, ?hq8f0, ?hq8f1, ?hq8f2, ?hq8f3, ?hq8f4⟩⟩
      case hq8f0 => omega
      case hq8f1 => first | (rw [rtC_skip hb36]; exact hcx) | (obtain rfl : i = d.crs.length := (by omega); rw [← hbi.fin hab (by omega) hb36r, List.map_append, ← hcx]; rfl)
      case hq8f2 => first | (rw [rtC_skip hb36]; exact hox) | (obtain rfl : i = d.crs.length := (by omega); rw [← hbi.fin hab (by omega) hb36r, List.map_append, ← hox]; rfl)
      case hq8f3 => exact hd1
      case hq8f4 => exact hd2
      case hq8m => omega
  ·replace hb28 := of_decide_eq_false hb28
   refine ws_exit rfl rfl ?_
   refine nm_sub [(1, _), (2, _), (3, _), (4, _), (5, _)] ⟨rfl, rfl, rfl, rfl, rfl, trivial⟩ ?_
   refine nm_thn ?_
   refine ws_seqN CanonForm_n57 CanonForm_n58 rfl rfl rfl ?_
   refine ws_region rfl ?_
   refine wlo 0 1 rfl rfl rfl (wo_run rfl rfl (run_fieldAddr rfl rfl Try.underlying24 rfl (ce3) (nf3)) ?_)
   refine wlo 1 2 rfl rfl rfl (wo_run rfl rfl (run_load1 rfl rfl Try.underlying3 rfl (S6.boxc (i := 3) rfl rfl)) ?_)
   refine wlo 2 3 rfl rfl rfl (wo_run rfl rfl (run_build (l := [_, _]) rfl rfl st24 rfl rfl) ?_)
   refine wlo 3 4 rfl rfl rfl (wo_alloc (l := [_, _]) rfl rfl rfl zr24 rfl S6 ?_)
   intro gb5 w12 S16; clear S6
   refine wlo 4 5 rfl rfl rfl (wo_storeB (i := 0) (us := [_, _]) (l' := [_, _]) (H' := [_, _, _, _, _]) rfl rfl S16 rfl rfl rfl rfl sz24 rfl rfl rfl rfl ?_)
   intro w13 S17; clear S16
   refine wl_end rfl ?_
   refine nm_sub [(1, _), (2, _), (3, _), (4, _), (5, _), (12, _)] ⟨rfl, rfl, rfl, rfl, rfl, rfl, trivial⟩ ?_
   refine nm_thn ?_
   refine ws_seqN CanonForm_n59 CanonForm_n60 rfl rfl rfl ?_
   obtain rfl : p = d.crs.length := by omega
   have hrta := rtC_all hab
   rw [hrta, List.take_of_length_le (by rw [ksD_len]; exact Nat.le_refl _)] at hcx hox
   have hcl : cxs.length = (pcsL d).length := by rw [hcx, List.length_map, ksD_len]
   have hol : oxs.length = (pcsL d).length := by rw [hox, List.length_map, ksD_len]
   have hpm : (pcsL d).length ≤ 16 := by rw [← hrta]; have := cn_le (isRt d) d.crs.length; unfold rtC; omega
   have hcg : ∀ i, i < (pcsL d).length → ga cxs i = kO (ksD d) i := fun i hi => by rw [hcx, ga_map _ _ _ (by rw [ksD_len]; exact hi)]; rfl
   have hog : ∀ i, i < (pcsL d).length → ga oxs i = (ga (ksD d) i).1 := fun i hi => by rw [hox, ga_map _ _ _ (by rw [ksD_len]; exact hi)]
   clear hcx hox
   refine ws_region rfl ?_
   refine wlm 0 1 rfl rfl rfl rfl rfl rfl rfl ?_
   refine wlo 1 2 rfl rfl rfl (wo_run rfl rfl (run_len rfl rfl rfl rfl rfl rfl Try.underlying33) ?_)
   refine wlo 2 3 rfl rfl rfl (wo_run rfl rfl (run_mul rfl rfl rfl (by first | omega | (simp only [lens]; omega))) ?_)
   refine wlo 3 4 rfl rfl rfl (wo_run rfl rfl (run_add rfl rfl rfl (by first | omega | (simp only [lens]; omega))) ?_)
   refine wlo 4 5 rfl rfl rfl (wo_make (C := cdInt) ((2 * ((whoL d).length : Int)).toNat + 1) rfl rfl rfl rfl rfl sl33 (by first | rfl | omega) (by show _ * 8 ≤ _; first | omega | (simp only [lens]; omega)) S17 ?_)
   intro vr3 w14 S18; clear S17
   refine wla 5 6 rfl rfl rfl rfl rfl rfl rfl ?_
   refine wl_end rfl ?_
   refine nm_sub [(1, _), (2, _), (4, _), (5, _), (12, _), (13, _)] ⟨rfl, rfl, rfl, rfl, rfl, rfl, trivial⟩ ?_
   refine nm_thn ?_
   refine ws_seqN CanonForm_n61 CanonForm_n62 rfl rfl rfl ?_
   have hrc1 : List.replicate ((2 * ((whoL d).length : Int)).toNat + 1) cdInt.z = (rnF d []).nm := by (show List.replicate _ (0 : Int) = List.replicate _ (0 : Int); refine congrArg (fun n => List.replicate n (0 : Int)) ?_; omega)
   rw [hrc1] at S18; clear hrc1
   refine ws_region rfl ?_
   refine wla 0 1 rfl rfl rfl rfl rfl rfl rfl ?_
   refine wl_end rfl ?_
   refine nm_thn ?_
   refine ws_seqN CanonForm_n63 CanonForm_n64 rfl rfl rfl ?_
   refine ws_region rfl ?_
   refine wlm 0 1 rfl rfl rfl rfl rfl rfl rfl ?_
   refine wlo 1 2 rfl rfl rfl (wo_run rfl rfl (run_lenR (C := (cdV 33)) (i := 3) rfl rfl rfl rfl rfl rfl sl34 S18 rfl) ?_)
   refine wlo 2 3 rfl rfl rfl (wo_make (C := cdBool) cv.length rfl rfl rfl rfl rfl sl68 (by first | rfl | omega) (by show _ * 1 ≤ _; first | omega | (simp only [lens]; omega)) S18 ?_)
   intro vr4 w15 S19; clear S18
   refine wla 3 4 rfl rfl rfl rfl rfl rfl rfl ?_
   refine wl_end rfl ?_
   refine nm_sub [(1, _), (2, _), (4, _), (5, _), (12, _), (13, _), (14, _), (15, _)] ⟨rfl, rfl, rfl, rfl, rfl, rfl, rfl, rfl, trivial⟩ ?_
   refine nm_thn ?_
   refine ws_seqN CanonForm_n65 CanonForm_n66 rfl rfl rfl ?_
   refine ws_seqN CanonForm_n67 CanonForm_n68 rfl rfl rfl ?_
   refine ws_region rfl ?_
   refine wlm 0 1 rfl rfl rfl rfl rfl rfl rfl ?_
   refine wlo 1 2 rfl rfl rfl (wo_run rfl rfl (run_lenR (C := (cdV 33)) (i := 4) rfl rfl rfl rfl rfl rfl sl34 S19 rfl) ?_)
   refine wlm 2 3 rfl rfl rfl rfl rfl rfl rfl ?_
   refine wl_end rfl ?_
   refine nm_sub [(1, _), (2, _), (4, _), (5, _), (12, _), (13, _), (14, _), (15, _), (85, _), (86, _)] ⟨rfl, rfl, rfl, rfl, rfl, rfl, rfl, rfl, rfl, rfl, trivial⟩ ?_
   refine nm_thn ?_
   refine ws_blockN CanonForm_n69 4 rfl rfl rfl ?_
   have S20 := S19.nilrow cdCr; clear S19
   refine ws_loopE (fun mx_ ax_ wx_ => ∃ (t : Nat) (κ : List Nat) (us : List Bool) (rn : Rn) (vrar : Value) (vrus : Value) (vro : Value) (M5 : Hp), M2.le M5 ∧ mx_ = (pcsL d).length - t ∧ Env 187 [(1, .pointer (some ⟨gb1, 0, none⟩)), (2, .pointer (some ⟨gb2, 0, none⟩)), (4, vrcv), (5, vrov), (12, .pointer (some ⟨gb5, 0, none⟩)), (13, vrar), (14, .int .i64 rn.nx), (15, vrus), (85, .int .i64 (cv.length : Int)), (86, .int .i64 (t : Int))] ax_ ∧ SH wx_ M5 X [Rs.row cdCr vro rn.cs, Rs.row cdBool vrus us, Rs.row cdInt vrar rn.nm, Rs.box gb5 24 [vro, .int .i64 d.loops], Rs.row (cdV 33) vrov ov, Rs.row (cdV 33) vrcv cv, Rs.box gb2 24 [.slice none 0 0, .int .i64 0], Rs.box gb1 24 [.slice dcrsA d.crs.length dcrsc, .int .i64 d.loops]] ∧ t ≤ (pcsL d).length ∧ κ.length = t ∧ us.length = (pcsL d).length ∧ (∀ x, x < (pcsL d).length → ga us x = decide (x ∈ κ)) ∧ Sel (kO (ksD d)) (pcsL d).length κ ∧ rn = rnF d ((List.map (ga (ksD d)) κ).flatMap Prod.fst)) rfl ?_ ?_
   ·intro ax_ hax_
    refine ⟨_, ⟨0, [], _, (rnF d []), _, _, _, _, Hp.le_refl _, rfl, hax_.sub ⟨rfl, rfl, rfl, rfl, rfl, rfl, rfl, rfl, rfl, rfl, trivial⟩, S20.pick [0, 1, 2, 3, 4, 5, 6, 7] [_, _, _, _, _, _, _, _] (by decide) ⟨rfl, rfl, rfl, rfl, rfl, rfl, rfl, rfl, trivial⟩, ?hq9f0, ?hq9f1, ?hq9f2, ?hq9f3, ?hq9f4, ?hq9f5⟩⟩
    case hq9f0 => omega
    case hq9f1 => rfl
    case hq9f2 => (rw [List.length_replicate]; omega)
    case hq9f3 => (intro x hx; rw [ga_rep _ _ _ (by omega)]; rfl)
    case hq9f4 => exact Sel.nil
    case hq9f5 => rfl
   ·rintro m3 a3 w16 ⟨t, κ, us, rn, vrar, vrus, vro, M5, hle5, rfl, he3, S21, ht, hκl, hul, hus, hsel, hrn⟩
    clear S20
    refine ws_in he3 (c := CanonForm_n70) rfl ?_
    clear he3 a3
    replace hdcrs := hdcrs.mono (Hp.un_mono hle5 S21.mx)
    replace hr1 := hr1.mono hle5
    replace hcv := hcv.mono hle5
    replace hov := hov.mono hle5
    have hfl4 : ((List.map (ga (ksD d)) κ).flatMap Prod.fst).length ≤ 16 * 16 := by
     have h9 := flatK_len (kσ := List.map (ga (ksD d)) κ) (n := 16) (m := κ.length) (by simp) (fun i hi => by rw [ga_map _ _ _ hi]; exact Nat.le_trans (ks_len hab (hsel.lt _ (ga_mem hi))) hn) κ.length (Nat.le_refl _)
     rw [List.take_of_length_le (by simp)] at h9
     exact Nat.le_trans h9 (Nat.mul_le_mul (Nat.le_refl 16) (by omega : κ.length ≤ 16))
    have hfm4 : ∀ x, x ∈ (List.map (ga (ksD d)) κ).flatMap Prod.fst → x.toNat < d.crs.length := fun x hx => by
     obtain ⟨y, hy, hx⟩ := List.mem_flatMap.1 hx
     obtain ⟨z, hz, rfl⟩ := List.mem_map.1 hy
     exact (seq_mem hab (hsel.lt z hz) hx).1
    obtain ⟨hri0, hnx0, hcs0⟩ : RnI d (rn.nm, rn.nx) ∧ rn.nx ≤ 1 + 4 * (((List.map (ga (ksD d)) κ).flatMap Prod.fst).length : Int) ∧ rn.cs.length = ((List.map (ga (ksD d)) κ).flatMap Prod.fst).length := by rw [hrn]; exact rnF_ok hab hfm4
    refine ws_seqN CanonForm_n71 CanonForm_n72 rfl rfl rfl ?_
    refine ws_region rfl ?_
    refine wlo 0 1 rfl rfl rfl (wo_run rfl rfl (run_lss rfl rfl rfl) ?_)
    refine wl_end rfl ?_
    refine nm_thn ?_
    refine ws_seqN CanonForm_n73 CanonForm_n74 rfl rfl rfl ?_
    refine ws_condN CanonForm_n75 CanonForm_n76 rfl rfl rfl rfl (fun hb87 => ?_) (fun hb87 => ?_)
    ·replace hb87 := of_decide_eq_true hb87
     refine ws_skip rfl ?_
     refine nm_sub [(1, _), (2, _), (4, _), (5, _), (12, _), (13, _), (14, _), (15, _), (85, _), (86, _)] ⟨rfl, rfl, rfl, rfl, rfl, rfl, rfl, rfl, rfl, rfl, trivial⟩ ?_
     refine nm_thn ?_
     refine ws_seqN CanonForm_n77 CanonForm_n78 rfl rfl rfl ?_
     refine ws_blockN CanonForm_n79 5 rfl rfl rfl ?_
     refine ws_seqN CanonForm_n80 CanonForm_n81 rfl rfl rfl ?_
     refine ws_region rfl ?_
     refine wla 0 1 rfl rfl rfl rfl rfl rfl rfl ?_
     refine wl_end rfl ?_
     refine nm_thn ?_
     refine ws_seqN CanonForm_n82 CanonForm_n83 rfl rfl rfl ?_
     refine ws_seqN CanonForm_n84 CanonForm_n85 rfl rfl rfl ?_
     refine ws_region rfl ?_
     refine wla 0 1 rfl rfl rfl rfl rfl rfl rfl ?_
     refine wl_end rfl ?_
     refine nm_thn ?_
     refine ws_blockN CanonForm_n86 6 rfl rfl rfl ?_
     refine ws_loopE (fun mx_ ax_ wx_ => ∃ (i : Nat) (kk : Int), mx_ = (pcsL d).length - i ∧ Env 187 [(1, .pointer (some ⟨gb1, 0, none⟩)), (2, .pointer (some ⟨gb2, 0, none⟩)), (4, vrcv), (5, vrov), (12, .pointer (some ⟨gb5, 0, none⟩)), (13, vrar), (14, .int .i64 rn.nx), (15, vrus), (85, .int .i64 (cv.length : Int)), (86, .int .i64 (t : Int)), (16, .int .i64 kk), (17, .int .i64 (i : Int))] ax_ ∧ SH wx_ M5 X [Rs.row cdCr vro rn.cs, Rs.row cdBool vrus us, Rs.row cdInt vrar rn.nm, Rs.box gb5 24 [vro, .int .i64 d.loops], Rs.row (cdV 33) vrov ov, Rs.row (cdV 33) vrcv cv, Rs.box gb2 24 [.slice none 0 0, .int .i64 0], Rs.box gb1 24 [.slice dcrsA d.crs.length dcrsc, .int .i64 d.loops]] ∧ i ≤ (pcsL d).length ∧ SelI (kO (ksD d)) κ i kk) rfl ?_ ?_
     ·intro ax_ hax_
      refine ⟨_, ⟨0, (-1), rfl, hax_.sub ⟨rfl, rfl, rfl, rfl, rfl, rfl, rfl, rfl, rfl, rfl, rfl, rfl, trivial⟩, S21.pick [0, 1, 2, 3, 4, 5, 6, 7] [_, _, _, _, _, _, _, _] (by decide) ⟨rfl, rfl, rfl, rfl, rfl, rfl, rfl, rfl, trivial⟩, ?hq10f0, ?hq10f1⟩⟩
      case hq10f0 => omega
      case hq10f1 => exact .inl ⟨rfl, fun j hj => by omega⟩
     ·rintro m4 a4 w17 ⟨i, kk, rfl, he4, S22, hi, hse⟩
      clear S21
      refine ws_in he4 (c := CanonForm_n87) rfl ?_
      clear he4 a4
      have husi := fun h => hus i h
      have hcgi := fun h => hcg i h
      refine ws_seqN CanonForm_n88 CanonForm_n89 rfl rfl rfl ?_
      refine ws_seqN CanonForm_n90 CanonForm_n91 rfl rfl rfl ?_
      refine ws_region rfl ?_
      refine wlm 0 1 rfl rfl rfl rfl rfl rfl rfl ?_
      refine wlm 1 2 rfl rfl rfl rfl rfl rfl rfl ?_
      refine wlo 2 3 rfl rfl rfl (wo_run rfl rfl (run_lenR (C := (cdV 33)) (i := 5) rfl rfl rfl rfl rfl rfl sl34 S22 rfl) ?_)
      refine wlo 3 4 rfl rfl rfl (wo_run rfl rfl (run_lss rfl rfl rfl) ?_)
      refine wl_end rfl ?_
      refine nm_sub [(1, _), (2, _), (4, _), (5, _), (12, _), (13, _), (14, _), (15, _), (85, _), (86, _), (16, _), (17, _), (91, _)] ⟨rfl, rfl, rfl, rfl, rfl, rfl, rfl, rfl, rfl, rfl, rfl, rfl, rfl, trivial⟩ ?_
      refine nm_thn ?_
      refine ws_condN CanonForm_n92 CanonForm_n93 rfl rfl rfl rfl (fun hb91 => ?_) (fun hb91 => ?_)
      ·replace hb91 := of_decide_eq_true hb91
       refine ws_skip rfl ?_
       refine nm_sub [(1, _), (2, _), (4, _), (5, _), (12, _), (13, _), (14, _), (15, _), (85, _), (86, _), (16, _), (17, _)] ⟨rfl, rfl, rfl, rfl, rfl, rfl, rfl, rfl, rfl, rfl, rfl, rfl, trivial⟩ ?_
       refine nm_thn ?_
       refine ws_seqN CanonForm_n94 CanonForm_n95 rfl rfl rfl ?_
       refine ws_blockN CanonForm_n96 7 rfl rfl rfl ?_
       refine ws_seqN CanonForm_n97 CanonForm_n98 rfl rfl rfl ?_
       refine ws_draw rfl (by kernel_rfl) S22 20 rfl ?_
       clear S22
       refine wa_takeP (i := 0) (d := 94) 19 rfl (by kernel_rfl) (by kernel_rfl) (by kernel_rfl) rfl rfl rfl (fun w18 => run_move rfl rfl) ?_
       refine wa_takeP (i := 1) (d := 95) 18 rfl (by kernel_rfl) (by kernel_rfl) (by kernel_rfl) rfl rfl rfl (fun w19 => run_move rfl rfl) ?_
       refine wa_take (i := 2) (d := 96) 17 rfl (by kernel_rfl) (by kernel_rfl) (by kernel_rfl) rfl rfl rfl (fun M8 N3 w20 hle9 S25 => .inl (run_indexR (C := cdBool) (i := 1) i rfl rfl rfl sl68 S25.suf rfl (by first | rfl | omega) (by first | omega | (simp only [lens]; omega)))) ?_
       refine wa_take (i := 3) (d := 97) 16 rfl (by kernel_rfl) (by kernel_rfl) (by kernel_rfl) rfl rfl rfl (fun M9 N4 w21 hle10 S26 => .inl (run_load1 rfl rfl Try.underlying4 rfl (S26.suf.rowc (i := 1) (e := i) (j := 0) rfl (by first | omega | (simp only [lens]; omega)) rfl rfl))) ?_
       refine wa_takeP (i := 4) (d := 98) 15 rfl (by kernel_rfl) (by kernel_rfl) (by kernel_rfl) rfl rfl rfl (fun w22 => run_not rfl rfl) ?_
       refine wa_takeP (i := 5) (d := 99) 14 rfl (by kernel_rfl) (by kernel_rfl) (by kernel_rfl) rfl rfl rfl (fun w23 => run_move rfl rfl) ?_
       refine wa_split (t := 99) rfl (fun hg99 => ?_) (fun hg99 => ?_)
       ·simp only [Bool.and_eq_true, Bool.or_eq_true, Bool.and_eq_false_iff, Bool.or_eq_false_iff, decide_eq_true_eq, decide_eq_false_iff_not, Bool.not_eq_true', Bool.not_eq_false'] at hg99
        have hik : i ∉ κ := by have := husi (by omega); rw [this] at hg99; simpa using hg99
        refine wa_takeP (i := 6) (d := 100) 13 rfl (by kernel_rfl) (by kernel_rfl) (by kernel_rfl) ⟨_, _, _, rfl, rfl, rfl, rfl⟩ rfl rfl (fun w24 => run_move rfl rfl) ?_
        refine wa_takeP (i := 7) (d := 101) 12 rfl (by kernel_rfl) (by kernel_rfl) (by kernel_rfl) ⟨_, _, _, rfl, rfl, rfl, rfl⟩ rfl rfl (fun w25 => run_lss rfl rfl rfl) ?_
        refine wa_takeP (i := 8) (d := 102) 11 rfl (by kernel_rfl) (by kernel_rfl) (by kernel_rfl) ⟨_, _, _, rfl, rfl, rfl, rfl⟩ rfl rfl (fun w26 => run_move rfl rfl) ?_
        refine wa_split (t := 102) rfl (fun hg102 => ?_) (fun hg102 => ?_)
        ·replace hg102 := of_decide_eq_true hg102
         refine wa_no (i := 9) (d := 103) 10 rfl (by kernel_rfl) (by kernel_rfl) (by kernel_rfl) ⟨_, _, _, rfl, rfl, rfl, rfl⟩ rfl rfl ?_
         refine wa_no (i := 10) (d := 104) 9 rfl (by kernel_rfl) (by kernel_rfl) (by kernel_rfl) ⟨_, _, _, rfl, rfl, rfl, rfl⟩ rfl rfl ?_
         refine wa_no (i := 11) (d := 105) 8 rfl (by kernel_rfl) (by kernel_rfl) (by kernel_rfl) ⟨_, _, _, rfl, rfl, rfl, rfl⟩ rfl rfl ?_
         refine wa_no (i := 12) (d := 106) 7 rfl (by kernel_rfl) (by kernel_rfl) (by kernel_rfl) ⟨_, _, _, rfl, rfl, rfl, rfl⟩ rfl rfl ?_
         refine wa_no (i := 13) (d := 107) 6 rfl (by kernel_rfl) (by kernel_rfl) (by kernel_rfl) ⟨_, _, _, rfl, rfl, rfl, rfl⟩ rfl rfl ?_
         refine wa_no (i := 14) (d := 108) 5 rfl (by kernel_rfl) (by kernel_rfl) (by kernel_rfl) ⟨_, _, _, rfl, rfl, rfl, rfl⟩ rfl rfl ?_
         refine wa_no (i := 15) (d := 109) 4 rfl (by kernel_rfl) (by kernel_rfl) (by kernel_rfl) ⟨_, _, _, rfl, rfl, rfl, rfl⟩ rfl rfl ?_
         refine wa_no (i := 16) (d := 110) 3 rfl (by kernel_rfl) (by kernel_rfl) (by kernel_rfl) ⟨_, _, _, rfl, rfl, rfl, rfl⟩ rfl rfl ?_
         refine wa_no (i := 17) (d := 111) 2 rfl (by kernel_rfl) (by kernel_rfl) (by kernel_rfl) ⟨_, _, _, rfl, rfl, rfl, rfl⟩ rfl rfl ?_
         refine wa_takeP (i := 18) (d := 112) 1 rfl (by kernel_rfl) (by kernel_rfl) (by kernel_rfl) ⟨_, _, _, rfl, rfl, rfl, rfl⟩ rfl rfl (fun w27 => run_pickT rfl rfl rfl) ?_
         refine wa_takeP (i := 19) (d := 113) 0 rfl (by kernel_rfl) (by kernel_rfl) (by kernel_rfl) rfl rfl rfl (fun w28 => run_pickT rfl rfl rfl) ?_
         refine wa_end (by kernel_rfl) (fun w29 S34 => ?_)
         refine nm_sub [(1, _), (2, _), (4, _), (5, _), (12, _), (13, _), (14, _), (15, _), (85, _), (86, _), (16, _), (17, _), (113, _)] ⟨rfl, rfl, rfl, rfl, rfl, rfl, rfl, rfl, rfl, rfl, rfl, rfl, rfl, trivial⟩ ?_
         refine nm_thn ?_
         refine ws_condTN CanonForm_n99 rfl rfl rfl ?_
         refine ws_region rfl ?_
         refine wlm 0 1 rfl rfl rfl rfl rfl rfl rfl ?_
         refine wla 1 2 rfl rfl rfl rfl rfl rfl rfl ?_
         refine wl_end rfl ?_
         refine nm_blk ?_
         refine nm_sub [(1, _), (2, _), (4, _), (5, _), (12, _), (13, _), (14, _), (15, _), (85, _), (86, _), (16, _), (17, _)] ⟨rfl, rfl, rfl, rfl, rfl, rfl, rfl, rfl, rfl, rfl, rfl, rfl, trivial⟩ ?_
         refine nm_thn ?_
         refine ws_region rfl ?_
         refine wlm 0 1 rfl rfl rfl rfl rfl rfl rfl ?_
         refine wlo 1 2 rfl rfl rfl (wo_run rfl rfl (run_add rfl rfl rfl (by first | omega | (simp only [lens]; omega))) ?_)
         refine wla 2 3 rfl rfl rfl rfl rfl rfl rfl ?_
         refine wl_end rfl ?_
         refine nm_lp ?_
         intro ax_ hax_
         refine ⟨_, ?hq11m, ⟨i + 1, (i : Int), rfl, hax_.sub ⟨rfl, rfl, rfl, rfl, rfl, rfl, rfl, rfl, rfl, rfl, rfl, rfl, trivial⟩, S34.pick [0, 1, 2, 3, 4, 5, 6, 7] [_, _, _, _, _, _, _, _] (by decide) ⟨rfl, rfl, rfl, rfl, rfl, rfl, rfl, rfl, trivial⟩, ?hq11f0, ?hq11f1⟩⟩
         case hq11f0 => omega
         case hq11f1 => first | exact hse.skip hik | exact hse.first (by omega) hik | exact hse.take hik hls | exact hse.stay hls
         case hq11m => omega
        ·replace hg102 := of_decide_eq_false hg102
         obtain ⟨k0, rfl, hk0i, hk0n⟩ : ∃ k : Nat, kk = (k : Int) ∧ k < i ∧ k ∉ κ := by
          rcases hse with ⟨h1, _⟩ | ⟨k, h1, h2, h3, _⟩
          ·omega
          ·exact ⟨k, h1, h2, h3⟩
         have hcgk := hcg k0 (by omega)
         have hcgi2 := hcgi (by omega)
         refine wa_takeP (i := 9) (d := 103) 10 rfl (by kernel_rfl) (by kernel_rfl) (by kernel_rfl) ⟨_, _, _, rfl, rfl, rfl, rfl⟩ rfl rfl (fun w30 => run_move rfl rfl) ?_
         refine wa_takeP (i := 10) (d := 104) 9 rfl (by kernel_rfl) (by kernel_rfl) (by kernel_rfl) ⟨_, _, _, rfl, rfl, rfl, rfl⟩ rfl rfl (fun w31 => run_move rfl rfl) ?_
         refine wa_take (i := 11) (d := 105) 8 rfl (by kernel_rfl) (by kernel_rfl) (by kernel_rfl) ⟨_, _, _, rfl, rfl, rfl, rfl⟩ rfl rfl (fun M19 N14 w32 hle20 S37 => .inl (run_indexR (C := (cdV 33)) (i := 5) i rfl rfl rfl sl34 S37.suf rfl (by first | rfl | omega) (by first | omega | (simp only [lens]; omega)))) ?_
         obtain ⟨hn1, hr4⟩ := hcv.2 i (by first | omega | (simp only [lens]; omega))
         refine wa_take (i := 12) (d := 106) 7 rfl (by kernel_rfl) (by kernel_rfl) (by kernel_rfl) ⟨_, _, _, rfl, rfl, rfl, rfl⟩ rfl rfl (fun M20 N15 w33 hle21 S38 => .inl (run_load1 rfl rfl Try.underlying33 rfl (S38.suf.rowc (i := 5) (e := i) (j := 0) rfl (by first | omega | (simp only [lens]; omega)) rfl (congrArg (fun n => some (Value.slice _ n _)) hn1)))) ?_
         refine wa_takeP (i := 13) (d := 107) 6 rfl (by kernel_rfl) (by kernel_rfl) (by kernel_rfl) ⟨_, _, _, rfl, rfl, rfl, rfl⟩ rfl rfl (fun w34 => run_move rfl rfl) ?_
         refine wa_takeP (i := 14) (d := 108) 5 rfl (by kernel_rfl) (by kernel_rfl) (by kernel_rfl) ⟨_, _, _, rfl, rfl, rfl, rfl⟩ rfl rfl (fun w35 => run_move rfl rfl) ?_
         refine wa_take (i := 15) (d := 109) 4 rfl (by kernel_rfl) (by kernel_rfl) (by kernel_rfl) ⟨_, _, _, rfl, rfl, rfl, rfl⟩ rfl rfl (fun M23 N18 w36 hle24 S41 => .inl (run_indexR (C := (cdV 33)) (i := 5) k0 rfl rfl rfl sl34 S41.suf rfl (by first | rfl | omega) (by first | omega | (simp only [lens]; omega)))) ?_
         obtain ⟨hn2, hr5⟩ := hcv.2 k0 (by first | omega | (simp only [lens]; omega))
         refine wa_take (i := 16) (d := 110) 3 rfl (by kernel_rfl) (by kernel_rfl) (by kernel_rfl) ⟨_, _, _, rfl, rfl, rfl, rfl⟩ rfl rfl (fun M24 N19 w37 hle25 S42 => .inl (run_load1 rfl rfl Try.underlying33 rfl (S42.suf.rowc (i := 5) (e := k0) (j := 0) rfl (by first | omega | (simp only [lens]; omega)) rfl (congrArg (fun n => some (Value.slice _ n _)) hn2)))) ?_
         refine wa_take (i := 17) (d := 111) 2 rfl (by kernel_rfl) (by kernel_rfl) (by kernel_rfl) ⟨_, _, _, rfl, rfl, rfl, rfl⟩ rfl rfl (fun M25 N20 w38 hle26 S43 => yield_cq rfl rfl rfl rfl rfl cf34 S43 (lessCode_q (ga cxs i) (ga cxs k0) ((hr4.mono hle26).mono (Hp.le_un _ _)) ((hr5.mono hle26).mono (Hp.le_un _ _)) S43.lend)) ?_
         refine wa_takeP (i := 18) (d := 112) 1 rfl (by kernel_rfl) (by kernel_rfl) (by kernel_rfl) ⟨_, _, _, rfl, rfl, rfl, rfl⟩ rfl rfl (fun w39 => run_pickF rfl rfl rfl) ?_
         refine wa_takeP (i := 19) (d := 113) 0 rfl (by kernel_rfl) (by kernel_rfl) (by kernel_rfl) rfl rfl rfl (fun w40 => run_pickT rfl rfl rfl) ?_
         refine wa_end (by kernel_rfl) (fun w41 S46 => ?_)
         refine nm_sub [(1, _), (2, _), (4, _), (5, _), (12, _), (13, _), (14, _), (15, _), (85, _), (86, _), (16, _), (17, _), (113, _)] ⟨rfl, rfl, rfl, rfl, rfl, rfl, rfl, rfl, rfl, rfl, rfl, rfl, rfl, trivial⟩ ?_
         refine nm_thn ?_
         refine ws_condN CanonForm_n99 CanonForm_n100 rfl rfl rfl rfl (fun hb113 => ?_) (fun hb113 => ?_)
         ·have hls : lessL (kO (ksD d) i) (kO (ksD d) k0) = true := by rw [← hcgk, ← hcgi2]; exact hb113
          refine ws_region rfl ?_
          refine wlm 0 1 rfl rfl rfl rfl rfl rfl rfl ?_
          refine wla 1 2 rfl rfl rfl rfl rfl rfl rfl ?_
          refine wl_end rfl ?_
          refine nm_blk ?_
          refine nm_sub [(1, _), (2, _), (4, _), (5, _), (12, _), (13, _), (14, _), (15, _), (85, _), (86, _), (16, _), (17, _)] ⟨rfl, rfl, rfl, rfl, rfl, rfl, rfl, rfl, rfl, rfl, rfl, rfl, trivial⟩ ?_
          refine nm_thn ?_
          refine ws_region rfl ?_
          refine wlm 0 1 rfl rfl rfl rfl rfl rfl rfl ?_
          refine wlo 1 2 rfl rfl rfl (wo_run rfl rfl (run_add rfl rfl rfl (by first | omega | (simp only [lens]; omega))) ?_)
          refine wla 2 3 rfl rfl rfl rfl rfl rfl rfl ?_
          refine wl_end rfl ?_
          refine nm_lp ?_
          intro ax_ hax_
          refine ⟨_, ?hq12m, ⟨i + 1, (i : Int), rfl, hax_.sub ⟨rfl, rfl, rfl, rfl, rfl, rfl, rfl, rfl, rfl, rfl, rfl, rfl, trivial⟩, S46.pick [0, 1, 2, 3, 4, 5, 6, 7] [_, _, _, _, _, _, _, _] (by decide) ⟨rfl, rfl, rfl, rfl, rfl, rfl, rfl, rfl, trivial⟩, ?hq12f0, ?hq12f1⟩⟩
          case hq12f0 => omega
          case hq12f1 => first | exact hse.skip hik | exact hse.first (by omega) hik | exact hse.take hik hls | exact hse.stay hls
          case hq12m => omega
         ·have hls : lessL (kO (ksD d) i) (kO (ksD d) k0) = false := by rw [← hcgk, ← hcgi2]; simpa using hb113
          refine ws_skip rfl ?_
          refine nm_blk ?_
          refine nm_sub [(1, _), (2, _), (4, _), (5, _), (12, _), (13, _), (14, _), (15, _), (85, _), (86, _), (16, _), (17, _)] ⟨rfl, rfl, rfl, rfl, rfl, rfl, rfl, rfl, rfl, rfl, rfl, rfl, trivial⟩ ?_
          refine nm_thn ?_
          refine ws_region rfl ?_
          refine wlm 0 1 rfl rfl rfl rfl rfl rfl rfl ?_
          refine wlo 1 2 rfl rfl rfl (wo_run rfl rfl (run_add rfl rfl rfl (by first | omega | (simp only [lens]; omega))) ?_)
          refine wla 2 3 rfl rfl rfl rfl rfl rfl rfl ?_
          refine wl_end rfl ?_
          refine nm_lp ?_
          intro ax_ hax_
          refine ⟨_, ?hq13m, ⟨i + 1, (k0 : Int), rfl, hax_.sub ⟨rfl, rfl, rfl, rfl, rfl, rfl, rfl, rfl, rfl, rfl, rfl, rfl, trivial⟩, S46.pick [0, 1, 2, 3, 4, 5, 6, 7] [_, _, _, _, _, _, _, _] (by decide) ⟨rfl, rfl, rfl, rfl, rfl, rfl, rfl, rfl, trivial⟩, ?hq13f0, ?hq13f1⟩⟩
          case hq13f0 => omega
          case hq13f1 => first | exact hse.skip hik | exact hse.first (by omega) hik | exact hse.take hik hls | exact hse.stay hls
          case hq13m => omega
       ·simp only [Bool.and_eq_true, Bool.or_eq_true, Bool.and_eq_false_iff, Bool.or_eq_false_iff, decide_eq_true_eq, decide_eq_false_iff_not, Bool.not_eq_true', Bool.not_eq_false'] at hg99
        have hik : i ∈ κ := by have := husi (by omega); rw [this] at hg99; simpa using hg99
        refine wa_no (i := 6) (d := 100) 13 rfl (by kernel_rfl) (by kernel_rfl) (by kernel_rfl) ⟨_, _, _, rfl, rfl, rfl, rfl⟩ rfl rfl ?_
        refine wa_no (i := 7) (d := 101) 12 rfl (by kernel_rfl) (by kernel_rfl) (by kernel_rfl) ⟨_, _, _, rfl, rfl, rfl, rfl⟩ rfl rfl ?_
        refine wa_no (i := 8) (d := 102) 11 rfl (by kernel_rfl) (by kernel_rfl) (by kernel_rfl) ⟨_, _, _, rfl, rfl, rfl, rfl⟩ rfl rfl ?_
        refine wa_no (i := 9) (d := 103) 10 rfl (by kernel_rfl) (by kernel_rfl) (by kernel_rfl) ⟨_, _, _, rfl, rfl, rfl, rfl⟩ rfl rfl ?_
        refine wa_no (i := 10) (d := 104) 9 rfl (by kernel_rfl) (by kernel_rfl) (by kernel_rfl) ⟨_, _, _, rfl, rfl, rfl, rfl⟩ rfl rfl ?_
        refine wa_no (i := 11) (d := 105) 8 rfl (by kernel_rfl) (by kernel_rfl) (by kernel_rfl) ⟨_, _, _, rfl, rfl, rfl, rfl⟩ rfl rfl ?_
        refine wa_no (i := 12) (d := 106) 7 rfl (by kernel_rfl) (by kernel_rfl) (by kernel_rfl) ⟨_, _, _, rfl, rfl, rfl, rfl⟩ rfl rfl ?_
        refine wa_no (i := 13) (d := 107) 6 rfl (by kernel_rfl) (by kernel_rfl) (by kernel_rfl) ⟨_, _, _, rfl, rfl, rfl, rfl⟩ rfl rfl ?_
        refine wa_no (i := 14) (d := 108) 5 rfl (by kernel_rfl) (by kernel_rfl) (by kernel_rfl) ⟨_, _, _, rfl, rfl, rfl, rfl⟩ rfl rfl ?_
        refine wa_no (i := 15) (d := 109) 4 rfl (by kernel_rfl) (by kernel_rfl) (by kernel_rfl) ⟨_, _, _, rfl, rfl, rfl, rfl⟩ rfl rfl ?_
        refine wa_no (i := 16) (d := 110) 3 rfl (by kernel_rfl) (by kernel_rfl) (by kernel_rfl) ⟨_, _, _, rfl, rfl, rfl, rfl⟩ rfl rfl ?_
        refine wa_no (i := 17) (d := 111) 2 rfl (by kernel_rfl) (by kernel_rfl) (by kernel_rfl) ⟨_, _, _, rfl, rfl, rfl, rfl⟩ rfl rfl ?_
        refine wa_no (i := 18) (d := 112) 1 rfl (by kernel_rfl) (by kernel_rfl) (by kernel_rfl) ⟨_, _, _, rfl, rfl, rfl, rfl⟩ rfl rfl ?_
        refine wa_takeP (i := 19) (d := 113) 0 rfl (by kernel_rfl) (by kernel_rfl) (by kernel_rfl) rfl rfl rfl (fun w42 => run_pickF rfl rfl rfl) ?_
        refine wa_end (by kernel_rfl) (fun w43 S48 => ?_)
        refine nm_sub [(1, _), (2, _), (4, _), (5, _), (12, _), (13, _), (14, _), (15, _), (85, _), (86, _), (16, _), (17, _), (113, _)] ⟨rfl, rfl, rfl, rfl, rfl, rfl, rfl, rfl, rfl, rfl, rfl, rfl, rfl, trivial⟩ ?_
        refine nm_thn ?_
        refine ws_condFN CanonForm_n100 rfl rfl rfl ?_
        refine ws_skip rfl ?_
        refine nm_blk ?_
        refine nm_sub [(1, _), (2, _), (4, _), (5, _), (12, _), (13, _), (14, _), (15, _), (85, _), (86, _), (16, _), (17, _)] ⟨rfl, rfl, rfl, rfl, rfl, rfl, rfl, rfl, rfl, rfl, rfl, rfl, trivial⟩ ?_
        refine nm_thn ?_
        refine ws_region rfl ?_
        refine wlm 0 1 rfl rfl rfl rfl rfl rfl rfl ?_
        refine wlo 1 2 rfl rfl rfl (wo_run rfl rfl (run_add rfl rfl rfl (by first | omega | (simp only [lens]; omega))) ?_)
        refine wla 2 3 rfl rfl rfl rfl rfl rfl rfl ?_
        refine wl_end rfl ?_
        refine nm_lp ?_
        intro ax_ hax_
        refine ⟨_, ?hq14m, ⟨i + 1, kk, rfl, hax_.sub ⟨rfl, rfl, rfl, rfl, rfl, rfl, rfl, rfl, rfl, rfl, rfl, rfl, trivial⟩, S48.pick [0, 1, 2, 3, 4, 5, 6, 7] [_, _, _, _, _, _, _, _] (by decide) ⟨rfl, rfl, rfl, rfl, rfl, rfl, rfl, rfl, trivial⟩, ?hq14f0, ?hq14f1⟩⟩
        case hq14f0 => omega
        case hq14f1 => first | exact hse.skip hik | exact hse.first (by omega) hik | exact hse.take hik hls | exact hse.stay hls
        case hq14m => omega
      ·replace hb91 := of_decide_eq_false hb91
       refine ws_exit rfl rfl ?_
       refine nm_sub [(1, _), (2, _), (4, _), (5, _), (12, _), (13, _), (14, _), (15, _), (85, _), (86, _), (16, _)] ⟨rfl, rfl, rfl, rfl, rfl, rfl, rfl, rfl, rfl, rfl, rfl, trivial⟩ ?_
       refine nm_thn ?_
       refine ws_seqN CanonForm_n101 CanonForm_n102 rfl rfl rfl ?_
       obtain rfl : i = (pcsL d).length := by omega
       obtain ⟨k1, rfl, hk1m, hk1n, hk1b⟩ : ∃ k : Nat, kk = (k : Int) ∧ k < (pcsL d).length ∧ k ∉ κ ∧ ∀ y, y < (pcsL d).length → y ∉ κ → y ≠ k → bef (kO (ksD d)) k y := by
        rcases hse with ⟨_, h2⟩ | ⟨k, h1, h2, h3, h4⟩
        ·obtain ⟨x, hx, hxn⟩ := sel_some (m := (pcsL d).length) hsel.nod (by omega)
         exact absurd (h2 x hx) hxn
        ·exact ⟨k, h1, h2, h3, h4⟩
       have hogk := hog k1 hk1m
       have hokl : (ga oxs k1).length ≤ d.crs.length := by rw [hogk]; exact ks_len hab hk1m
       have hokm : ∀ x, x ∈ ga oxs k1 → x.toNat < d.crs.length ∧ 0 ≤ x := fun x hx => by rw [hogk] at hx; exact ⟨(seq_mem hab hk1m hx).1, (seq_mem hab hk1m hx).2.1⟩
       refine ws_region rfl ?_
       refine wlm 0 1 rfl rfl rfl rfl rfl rfl rfl ?_
       refine wlm 1 2 rfl rfl rfl rfl rfl rfl rfl ?_
       refine wlo 2 3 rfl rfl rfl (wo_run rfl rfl (run_indexR (C := cdBool) (i := 1) k1 rfl rfl rfl sl68 S22 rfl (by first | rfl | omega) (by first | omega | (simp only [lens]; omega))) ?_)
       refine wlo 3 4 rfl rfl rfl (wo_storeR (C := cdBool) (i := 1) (e := k1) (j := 0) (us := [_]) (H' := [_, _, _, _, _, _, _, _]) true rfl rfl S22 rfl (by first | omega | (simp only [lens]; omega)) rfl rfl rfl sz4 rfl rfl rfl rfl ?_)
       intro w44 S49; clear S22
       refine wl_end rfl ?_
       refine nm_sub [(1, _), (2, _), (4, _), (5, _), (12, _), (13, _), (14, _), (15, _), (85, _), (86, _), (16, _)] ⟨rfl, rfl, rfl, rfl, rfl, rfl, rfl, rfl, rfl, rfl, rfl, trivial⟩ ?_
       refine nm_thn ?_
       refine ws_seqN CanonForm_n103 CanonForm_n104 rfl rfl rfl ?_
       refine ws_region rfl ?_
       refine wla 0 1 rfl rfl rfl rfl rfl rfl rfl ?_
       refine wl_end rfl ?_
       refine nm_thn ?_
       refine ws_blockN CanonForm_n105 8 rfl rfl rfl ?_
       refine ws_loopE (fun mx_ ax_ wx_ => ∃ (q : Nat) (rn2 : Rn) (vrar2 : Value) (vro2 : Value) (M29 : Hp), M5.le M29 ∧ mx_ = (ga oxs k1).length - q ∧ Env 187 [(1, .pointer (some ⟨gb1, 0, none⟩)), (2, .pointer (some ⟨gb2, 0, none⟩)), (4, vrcv), (5, vrov), (12, .pointer (some ⟨gb5, 0, none⟩)), (13, vrar2), (14, .int .i64 rn2.nx), (15, vrus), (85, .int .i64 (cv.length : Int)), (86, .int .i64 (t : Int)), (16, .int .i64 (k1 : Int)), (18, .int .i64 (q : Int))] ax_ ∧ SH wx_ M29 X [Rs.row cdCr vro2 rn2.cs, Rs.row cdBool vrus (us.set k1 true), Rs.row cdInt vrar2 rn2.nm, Rs.box gb5 24 [vro2, .int .i64 d.loops], Rs.row (cdV 33) vrov ov, Rs.row (cdV 33) vrcv cv, Rs.box gb2 24 [.slice none 0 0, .int .i64 0], Rs.box gb1 24 [.slice dcrsA d.crs.length dcrsc, .int .i64 d.loops]] ∧ q ≤ (ga oxs k1).length ∧ rn2 = rnF d ((List.map (ga (ksD d)) κ).flatMap Prod.fst ++ (ga oxs k1).take q)) rfl ?_ ?_
       ·intro ax_ hax_
        refine ⟨_, ⟨0, rn, _, _, _, Hp.le_refl _, rfl, hax_.sub ⟨rfl, rfl, rfl, rfl, rfl, rfl, rfl, rfl, rfl, rfl, rfl, rfl, trivial⟩, S49.pick [0, 1, 2, 3, 4, 5, 6, 7] [_, _, _, _, _, _, _, _] (by decide) ⟨rfl, rfl, rfl, rfl, rfl, rfl, rfl, rfl, trivial⟩, ?hq15f0, ?hq15f1⟩⟩
        case hq15f0 => omega
        case hq15f1 => (rw [List.take_zero, List.append_nil]; exact hrn)
       ·rintro m5 a5 w45 ⟨q, rn2, vrar2, vro2, M29, hle30, rfl, he5, S50, hq, hrn2⟩
        clear S49
        refine ws_in he5 (c := CanonForm_n106) rfl ?_
        clear he5 a5
        replace hdcrs := hdcrs.mono (Hp.un_mono hle30 S50.mx)
        replace hr1 := hr1.mono hle30
        replace hcv := hcv.mono hle30
        replace hov := hov.mono hle30
        obtain ⟨hri, hnx, hcs⟩ : RnI d (rn2.nm, rn2.nx) ∧ rn2.nx ≤ 1 + 4 * (((List.map (ga (ksD d)) κ).flatMap Prod.fst ++ (ga oxs k1).take q).length : Int) ∧ rn2.cs.length = ((List.map (ga (ksD d)) κ).flatMap Prod.fst ++ (ga oxs k1).take q).length := by
         rw [hrn2]
         exact rnF_ok hab fun x hx => by
          rcases List.mem_append.1 hx with hx | hx
          ·exact hfm4 x hx
          ·exact (hokm x (List.mem_of_mem_take hx)).1
        rw [List.length_append, List.length_take] at hnx hcs
        have hrl := hri.len
        dsimp only at hrl
        refine ws_seqN CanonForm_n107 CanonForm_n108 rfl rfl rfl ?_
        refine ws_seqN CanonForm_n109 CanonForm_n110 rfl rfl rfl ?_
        refine ws_region rfl ?_
        refine wlm 0 1 rfl rfl rfl rfl rfl rfl rfl ?_
        refine wlm 1 2 rfl rfl rfl rfl rfl rfl rfl ?_
        refine wlm 2 3 rfl rfl rfl rfl rfl rfl rfl ?_
        refine wlo 3 4 rfl rfl rfl (wo_run rfl rfl (run_indexR (C := (cdV 33)) (i := 4) k1 rfl rfl rfl sl34 S50 rfl (by first | rfl | omega) (by first | omega | (simp only [lens]; omega))) ?_)
        obtain ⟨hn3, hr6⟩ := hov.2 k1 (by first | omega | (simp only [lens]; omega))
        refine wlo 4 5 rfl rfl rfl (wo_run rfl rfl (run_load1 rfl rfl Try.underlying33 rfl (S50.rowc (i := 4) (e := k1) (j := 0) rfl (by first | omega | (simp only [lens]; omega)) rfl (congrArg (fun n => some (Value.slice _ n _)) hn3))) ?_)
        refine wlo 5 6 rfl rfl rfl (wo_run rfl rfl (run_len rfl rfl rfl rfl rfl rfl Try.underlying33) ?_)
        refine wlo 6 7 rfl rfl rfl (wo_run rfl rfl (run_lss rfl rfl rfl) ?_)
        refine wl_end rfl ?_
        refine nm_sub [(1, _), (2, _), (4, _), (5, _), (12, _), (13, _), (14, _), (15, _), (85, _), (86, _), (16, _), (18, _), (124, _)] ⟨rfl, rfl, rfl, rfl, rfl, rfl, rfl, rfl, rfl, rfl, rfl, rfl, rfl, trivial⟩ ?_
        refine nm_thn ?_
        refine ws_condN CanonForm_n111 CanonForm_n112 rfl rfl rfl rfl (fun hb124 => ?_) (fun hb124 => ?_)
        ·replace hb124 := of_decide_eq_true hb124
         refine ws_skip rfl ?_
         refine nm_sub [(1, _), (2, _), (4, _), (5, _), (12, _), (13, _), (14, _), (15, _), (85, _), (86, _), (16, _), (18, _)] ⟨rfl, rfl, rfl, rfl, rfl, rfl, rfl, rfl, rfl, rfl, rfl, rfl, trivial⟩ ?_
         refine nm_thn ?_
         refine ws_seqN CanonForm_n113 CanonForm_n114 rfl rfl rfl ?_
         refine ws_blockN CanonForm_n115 9 rfl rfl rfl ?_
         refine ws_seqN CanonForm_n116 CanonForm_n117 rfl rfl rfl ?_
         refine ws_region rfl ?_
         refine wlm 0 1 rfl rfl rfl rfl rfl rfl rfl ?_
         refine wlm 1 2 rfl rfl rfl rfl rfl rfl rfl ?_
         refine wlo 2 3 rfl rfl rfl (wo_run rfl rfl (run_indexR (C := (cdV 33)) (i := 4) k1 rfl rfl rfl sl34 S50 rfl (by first | rfl | omega) (by first | omega | (simp only [lens]; omega))) ?_)
         obtain ⟨hn4, hr7⟩ := hov.2 k1 (by first | omega | (simp only [lens]; omega))
         refine wlo 3 4 rfl rfl rfl (wo_run rfl rfl (run_load1 rfl rfl Try.underlying33 rfl (S50.rowc (i := 4) (e := k1) (j := 0) rfl (by first | omega | (simp only [lens]; omega)) rfl (congrArg (fun n => some (Value.slice _ n _)) hn4))) ?_)
         refine wlm 4 5 rfl rfl rfl rfl rfl rfl rfl ?_
         refine wlo 5 6 rfl rfl rfl (wo_run rfl rfl (run_indexM (C := cdInt) q rfl rfl rfl sl33 (by first | rfl | omega) hr7 (by first | omega | (simp only [lens]; omega))) ?_)
         refine wlo 6 7 rfl rfl rfl (wo_run rfl rfl (run_load1 rfl rfl Try.underlying3 rfl (hr7.cell S50.m (i := q) (by first | omega | (simp only [lens]; omega)) 0 rfl rfl)) ?_)
         refine wla 7 8 rfl rfl rfl rfl rfl rfl rfl ?_
         refine wl_end rfl ?_
         refine nm_sub [(1, _), (2, _), (4, _), (5, _), (12, _), (13, _), (14, _), (15, _), (85, _), (86, _), (16, _), (18, _), (19, _)] ⟨rfl, rfl, rfl, rfl, rfl, rfl, rfl, rfl, rfl, rfl, rfl, rfl, rfl, trivial⟩ ?_
         refine nm_thn ?_
         refine ws_seqN CanonForm_n118 CanonForm_n119 rfl rfl rfl ?_
         obtain ⟨hc1, hc2⟩ := hokm _ (ga_mem (show q < (ga oxs k1).length by omega))
         obtain ⟨c, hcn⟩ : ∃ c : Nat, ga (ga oxs k1) q = (c : Int) := ⟨(ga (ga oxs k1) q).toNat, by omega⟩
         have hcl : c < d.crs.length := by omega
         clear hc1 hc2
         refine ws_eq 19 (.int .i64 (c : Int)) rfl (int_eq hcn) ?_
         refine ws_region rfl ?_
         refine wla 0 1 rfl rfl rfl rfl rfl rfl rfl ?_
         refine wl_end rfl ?_
         refine nm_sub [(1, _), (2, _), (4, _), (5, _), (12, _), (13, _), (14, _), (15, _), (85, _), (86, _), (16, _), (18, _), (19, _), (20, _)] ⟨rfl, rfl, rfl, rfl, rfl, rfl, rfl, rfl, rfl, rfl, rfl, rfl, rfl, rfl, trivial⟩ ?_
         refine nm_thn ?_
         refine ws_seqN CanonForm_n120 CanonForm_n121 rfl rfl rfl ?_
         refine ws_seqN CanonForm_n122 CanonForm_n123 rfl rfl rfl ?_
         refine ws_region rfl ?_
         refine wla 0 1 rfl rfl rfl rfl rfl rfl rfl ?_
         refine wl_end rfl ?_
         refine nm_thn ?_
         refine ws_blockN CanonForm_n124 10 rfl rfl rfl ?_
         have S51 := S50.nilrow cdInt; clear S50
         refine ws_loopE (fun mx_ ax_ wx_ => ∃ (a5 : Nat) (av : List Int) (vrar3 : Value) (vrav : Value), mx_ = 4 - a5 ∧ Env 187 [(1, .pointer (some ⟨gb1, 0, none⟩)), (2, .pointer (some ⟨gb2, 0, none⟩)), (4, vrcv), (5, vrov), (12, .pointer (some ⟨gb5, 0, none⟩)), (13, vrar3), (14, .int .i64 ((rnC d c (rn2.nm, rn2.nx) a5).2)), (15, vrus), (85, .int .i64 (cv.length : Int)), (86, .int .i64 (t : Int)), (16, .int .i64 (k1 : Int)), (18, .int .i64 (q : Int)), (19, .int .i64 (c : Int)), (20, vrav), (21, .int .i64 (a5 : Int))] ax_ ∧ SH wx_ M29 X [Rs.row cdInt vrav av, Rs.row cdCr vro2 rn2.cs, Rs.row cdBool vrus (us.set k1 true), Rs.row cdInt vrar3 ((rnC d c (rn2.nm, rn2.nx) a5).1), Rs.box gb5 24 [vro2, .int .i64 d.loops], Rs.row (cdV 33) vrov ov, Rs.row (cdV 33) vrcv cv, Rs.box gb2 24 [.slice none 0 0, .int .i64 0], Rs.box gb1 24 [.slice dcrsA d.crs.length dcrsc, .int .i64 d.loops]] ∧ a5 ≤ 4 ∧ av.length = a5 ∧ (∀ j, j < a5 → ga av j = ga (rnC d c (rn2.nm, rn2.nx) (j + 1)).1 (arcAt d c j).toNat)) rfl ?_ ?_
         ·intro ax_ hax_
          refine ⟨_, ⟨0, _, _, _, rfl, hax_.sub ⟨rfl, rfl, rfl, rfl, rfl, rfl, rfl, rfl, rfl, rfl, rfl, rfl, rfl, rfl, rfl, trivial⟩, S51.pick [0, 1, 2, 3, 4, 5, 6, 7, 8] [_, _, _, _, _, _, _, _, _] (by decide) ⟨rfl, rfl, rfl, rfl, rfl, rfl, rfl, rfl, rfl, trivial⟩, ?hq16f0, ?hq16f1, ?hq16f2⟩⟩
          case hq16f0 => omega
          case hq16f1 => rfl
          case hq16f2 => (intro j hj; omega)
         ·rintro m6 a6 w46 ⟨a5, av, vrar3, vrav, rfl, he6, S52, ha5, hav, havg⟩
          clear S51
          refine ws_in he6 (c := CanonForm_n125) rfl ?_
          clear he6 a6
          obtain ⟨hrc1, _, _, hrc4, _⟩ := rnC_ok hab hcl hri a5 ha5
          have hrcl := hrc1.len
          dsimp only at hrc4 hrcl
          have haa := fun h => arcAt_bd hab hcl (k := a5) h
          have hrcp := hrc1.pos
          refine ws_seqN CanonForm_n126 CanonForm_n127 rfl rfl rfl ?_
          refine ws_seqN CanonForm_n128 CanonForm_n129 rfl rfl rfl ?_
          refine ws_region rfl ?_
          refine wlm 0 1 rfl rfl rfl rfl rfl rfl rfl ?_
          refine wlo 1 2 rfl rfl rfl (wo_run rfl rfl (run_lss rfl rfl rfl) ?_)
          refine wl_end rfl ?_
          refine nm_sub [(1, _), (2, _), (4, _), (5, _), (12, _), (13, _), (14, _), (15, _), (85, _), (86, _), (16, _), (18, _), (19, _), (20, _), (21, _), (135, _)] ⟨rfl, rfl, rfl, rfl, rfl, rfl, rfl, rfl, rfl, rfl, rfl, rfl, rfl, rfl, rfl, rfl, trivial⟩ ?_
          refine nm_thn ?_
          refine ws_condN CanonForm_n130 CanonForm_n131 rfl rfl rfl rfl (fun hb135 => ?_) (fun hb135 => ?_)
          ·replace hb135 := of_decide_eq_true hb135
           have haa5 := haa (by omega)
           refine ws_skip rfl ?_
           refine nm_sub [(1, _), (2, _), (4, _), (5, _), (12, _), (13, _), (14, _), (15, _), (85, _), (86, _), (16, _), (18, _), (19, _), (20, _), (21, _)] ⟨rfl, rfl, rfl, rfl, rfl, rfl, rfl, rfl, rfl, rfl, rfl, rfl, rfl, rfl, rfl, trivial⟩ ?_
           refine nm_thn ?_
           refine ws_seqN CanonForm_n132 CanonForm_n133 rfl rfl rfl ?_
           refine ws_blockN CanonForm_n134 11 rfl rfl rfl ?_
           refine ws_seqN CanonForm_n135 CanonForm_n136 rfl rfl rfl ?_
           refine ws_region rfl ?_
           refine wlo 0 1 rfl rfl rfl (wo_run rfl rfl (run_loadN (us := [_, _]) rfl rfl Try.underlying24 rfl sz24 (S52.boxcs (i := 8) rfl ⟨rfl, rfl, trivial⟩)) ?_)
           refine wlm 1 2 rfl rfl rfl rfl rfl rfl rfl ?_
           refine wlm 2 3 rfl rfl rfl rfl rfl rfl rfl ?_
           refine wlo 3 4 rfl rfl rfl (wo_run rfl rfl (run_build (l := [_, _]) rfl rfl st61 rfl rfl) ?_)
           refine wlo 4 5 rfl rfl rfl (wo_cq rfl rfl rfl rfl rfl rfl rfl cf30 S52 (ArcAt_q d c a5 (hdcrs.mono S52.un_XH) (by omega) (by omega) S52.lend) ?_)
           rintro _ w47 S53 rfl; clear S52
           refine wla 5 6 rfl rfl rfl rfl rfl rfl rfl ?_
           refine wl_end rfl ?_
           refine nm_sub [(1, _), (2, _), (4, _), (5, _), (12, _), (13, _), (14, _), (15, _), (85, _), (86, _), (16, _), (18, _), (19, _), (20, _), (21, _), (22, _)] ⟨rfl, rfl, rfl, rfl, rfl, rfl, rfl, rfl, rfl, rfl, rfl, rfl, rfl, rfl, rfl, rfl, trivial⟩ ?_
           refine nm_thn ?_
           refine ws_seqN CanonForm_n137 CanonForm_n138 rfl rfl rfl ?_
           refine ws_seqN CanonForm_n139 CanonForm_n140 rfl rfl rfl ?_
           refine ws_region rfl ?_
           refine wlm 0 1 rfl rfl rfl rfl rfl rfl rfl ?_
           refine wlm 1 2 rfl rfl rfl rfl rfl rfl rfl ?_
           refine wlo 2 3 rfl rfl rfl (wo_run rfl rfl (run_indexR (C := cdInt) (i := 3) ((arcAt d c a5).toNat) rfl rfl rfl sl33 S53 rfl (by first | rfl | omega) (by first | omega | (simp only [lens]; omega))) ?_)
           refine wlo 3 4 rfl rfl rfl (wo_run rfl rfl (run_load1 rfl rfl Try.underlying3 rfl (S53.rowc (i := 3) (e := (arcAt d c a5).toNat) (j := 0) rfl (by first | omega | (simp only [lens]; omega)) rfl rfl)) ?_)
           refine wlo 4 5 rfl rfl rfl (wo_run rfl rfl (run_eql rfl rfl rfl) ?_)
           refine wl_end rfl ?_
           refine nm_sub [(1, _), (2, _), (4, _), (5, _), (12, _), (13, _), (14, _), (15, _), (85, _), (86, _), (16, _), (18, _), (19, _), (20, _), (21, _), (22, _), (147, _)] ⟨rfl, rfl, rfl, rfl, rfl, rfl, rfl, rfl, rfl, rfl, rfl, rfl, rfl, rfl, rfl, rfl, rfl, trivial⟩ ?_
           refine nm_thn ?_
           refine ws_condN CanonForm_n141 CanonForm_n142 rfl rfl rfl rfl (fun hb147 => ?_) (fun hb147 => ?_)
           ·replace hb147 := of_decide_eq_true hb147
            have hS : rnC d c (rn2.nm, rn2.nx) (a5 + 1) = ((rnC d c (rn2.nm, rn2.nx) a5).1.set (arcAt d c a5).toNat (rnC d c (rn2.nm, rn2.nx) a5).2, (rnC d c (rn2.nm, rn2.nx) a5).2 + 1) := by show rnA (rnC d c (rn2.nm, rn2.nx) a5) (arcAt d c a5) = _; unfold rnA; rw [if_pos hb147]
            refine ws_seqN CanonForm_n143 CanonForm_n144 rfl rfl rfl ?_
            refine ws_region rfl ?_
            refine wlm 0 1 rfl rfl rfl rfl rfl rfl rfl ?_
            refine wlm 1 2 rfl rfl rfl rfl rfl rfl rfl ?_
            refine wlm 2 3 rfl rfl rfl rfl rfl rfl rfl ?_
            refine wlo 3 4 rfl rfl rfl (wo_run rfl rfl (run_indexR (C := cdInt) (i := 3) ((arcAt d c a5).toNat) rfl rfl rfl sl33 S53 rfl (by first | rfl | omega) (by first | omega | (simp only [lens]; omega))) ?_)
            refine wlo 4 5 rfl rfl rfl (wo_storeR (C := cdInt) (i := 3) (e := (arcAt d c a5).toNat) (j := 0) (us := [_]) (H' := [_, _, _, _, _, _, _, _, _]) ((rnC d c (rn2.nm, rn2.nx) a5).2) rfl rfl S53 rfl (by first | omega | (simp only [lens]; omega)) rfl rfl rfl sz3 rfl rfl rfl rfl ?_)
            intro w48 S54; clear S53
            refine wl_end rfl ?_
            refine nm_sub [(1, _), (2, _), (4, _), (5, _), (12, _), (13, _), (14, _), (15, _), (85, _), (86, _), (16, _), (18, _), (19, _), (20, _), (21, _), (22, _)] ⟨rfl, rfl, rfl, rfl, rfl, rfl, rfl, rfl, rfl, rfl, rfl, rfl, rfl, rfl, rfl, rfl, trivial⟩ ?_
            refine nm_thn ?_
            refine ws_region rfl ?_
            refine wlm 0 1 rfl rfl rfl rfl rfl rfl rfl ?_
            refine wlo 1 2 rfl rfl rfl (wo_run rfl rfl (run_add rfl rfl rfl (by omega)) ?_)
            refine wla 2 3 rfl rfl rfl rfl rfl rfl rfl ?_
            refine wl_end rfl ?_
            refine nm_sub [(1, _), (2, _), (4, _), (5, _), (12, _), (13, _), (14, _), (15, _), (85, _), (86, _), (16, _), (18, _), (19, _), (20, _), (21, _), (22, _)] ⟨rfl, rfl, rfl, rfl, rfl, rfl, rfl, rfl, rfl, rfl, rfl, rfl, rfl, rfl, rfl, rfl, trivial⟩ ?_
            refine nm_thn ?_
            have hrc2 : ((rnC d c (rn2.nm, rn2.nx) a5).1).set ((arcAt d c a5).toNat) ((rnC d c (rn2.nm, rn2.nx) a5).2) = (rnC d c (rn2.nm, rn2.nx) (a5 + 1)).1 := by rw [hS]
            rw [hrc2] at S54; clear hrc2
            refine ws_eq 14 (.int .i64 ((rnC d c (rn2.nm, rn2.nx) (a5 + 1)).2)) rfl (int_eq (by rw [hS])) ?_
            have hnm9 : (rnC d c (rn2.nm, rn2.nx) (a5 + 1)).1 = (rnC d c (rn2.nm, rn2.nx) (a5 + 1)).1 := rfl
            have hl9 : (rnC d c (rn2.nm, rn2.nx) (a5 + 1)).1.length = 2 * d.crs.length + 1 := (rnC_ok hab hcl hri (a5 + 1) (by omega)).1.len
            refine ws_region rfl ?_
            refine wlm 0 1 rfl rfl rfl rfl rfl rfl rfl ?_
            refine wlm 1 2 rfl rfl rfl rfl rfl rfl rfl ?_
            refine wlm 2 3 rfl rfl rfl rfl rfl rfl rfl ?_
            refine wlo 3 4 rfl rfl rfl (wo_run rfl rfl (run_indexR (C := cdInt) (i := 3) ((arcAt d c a5).toNat) rfl rfl rfl sl33 S54 rfl (by first | rfl | omega) (by first | omega | (simp only [lens]; omega))) ?_)
            refine wlo 4 5 rfl rfl rfl (wo_run rfl rfl (run_load1 rfl rfl Try.underlying3 rfl (S54.rowc (i := 3) (e := (arcAt d c a5).toNat) (j := 0) rfl (by first | omega | (simp only [lens]; omega)) rfl rfl)) ?_)
            refine wlo 5 6 rfl rfl rfl (wo_buildSlice1 (C := cdInt) (l := [_]) rfl rfl rfl rfl sl33 rfl rfl rfl rfl S54 ?_)
            intro gb6 w49 S55; clear S54
            refine wlo 6 7 rfl rfl rfl (wo_append1 (C := cdInt) (i := 1) (q := 0) (ga ((rnC d c (rn2.nm, rn2.nx) (a5 + 1)).1) ((arcAt d c a5).toNat)) rfl rfl rfl rfl rfl rfl rfl rfl sl33 S55 rfl rfl rfl (by show (_ + 1) * 8 ≤ _; first | omega | (simp only [lens]; omega)) ?_)
            intro vrav1 w50 S56; clear S55
            have S57 := S56.pick [1, 2, 3, 4, 5, 6, 7, 8, 9] [_, _, _, _, _, _, _, _, _] (by decide) ⟨rfl, rfl, rfl, rfl, rfl, rfl, rfl, rfl, rfl, trivial⟩; clear S56
            refine wla 7 8 rfl rfl rfl rfl rfl rfl rfl ?_
            refine wl_end rfl ?_
            refine nm_blk ?_
            refine nm_sub [(1, _), (2, _), (4, _), (5, _), (12, _), (13, _), (14, _), (15, _), (85, _), (86, _), (16, _), (18, _), (19, _), (20, _), (21, _)] ⟨rfl, rfl, rfl, rfl, rfl, rfl, rfl, rfl, rfl, rfl, rfl, rfl, rfl, rfl, rfl, trivial⟩ ?_
            refine nm_thn ?_
            refine ws_region rfl ?_
            refine wlm 0 1 rfl rfl rfl rfl rfl rfl rfl ?_
            refine wlo 1 2 rfl rfl rfl (wo_run rfl rfl (run_add rfl rfl rfl (by first | omega | (simp only [lens]; omega))) ?_)
            refine wla 2 3 rfl rfl rfl rfl rfl rfl rfl ?_
            refine wl_end rfl ?_
            refine nm_lp ?_
            intro ax_ hax_
            refine ⟨_, ?hq17m, ⟨a5 + 1, _, _, _, rfl, hax_.sub ⟨rfl, rfl, rfl, rfl, rfl, rfl, rfl, rfl, rfl, rfl, rfl, rfl, rfl, rfl, rfl, trivial⟩, S57.pick [0, 1, 2, 3, 4, 5, 6, 7, 8] [_, _, _, _, _, _, _, _, _] (by decide) ⟨rfl, rfl, rfl, rfl, rfl, rfl, rfl, rfl, rfl, trivial⟩, ?hq17f0, ?hq17f1, ?hq17f2⟩⟩
            case hq17f0 => omega
            case hq17f1 => (rw [List.length_append, hav]; rfl)
            case hq17f2 => (intro j hj; by_cases e : j < a5; (rw [ga_append_left _ _ _ (by omega)]; exact havg j e); (obtain rfl : j = a5 := (by omega); rw [ga_append_right _ _ _ (by omega), hav, Nat.sub_self, ← hnm9]; rfl))
            case hq17m => omega
           ·replace hb147 := of_decide_eq_false hb147
            have hS : rnC d c (rn2.nm, rn2.nx) (a5 + 1) = (rnC d c (rn2.nm, rn2.nx) a5) := by show rnA (rnC d c (rn2.nm, rn2.nx) a5) (arcAt d c a5) = _; unfold rnA; rw [if_neg hb147]
            refine ws_skip rfl ?_
            refine nm_sub [(1, _), (2, _), (4, _), (5, _), (12, _), (13, _), (14, _), (15, _), (85, _), (86, _), (16, _), (18, _), (19, _), (20, _), (21, _), (22, _)] ⟨rfl, rfl, rfl, rfl, rfl, rfl, rfl, rfl, rfl, rfl, rfl, rfl, rfl, rfl, rfl, rfl, trivial⟩ ?_
            refine nm_thn ?_
            have hrc3 : (rnC d c (rn2.nm, rn2.nx) a5).1 = (rnC d c (rn2.nm, rn2.nx) (a5 + 1)).1 := by rw [hS]
            rw [hrc3] at S53; clear hrc3
            refine ws_eq 14 (.int .i64 ((rnC d c (rn2.nm, rn2.nx) (a5 + 1)).2)) rfl (int_eq (by rw [hS])) ?_
            have hnm9 : (rnC d c (rn2.nm, rn2.nx) (a5 + 1)).1 = (rnC d c (rn2.nm, rn2.nx) (a5 + 1)).1 := rfl
            have hl9 : (rnC d c (rn2.nm, rn2.nx) (a5 + 1)).1.length = 2 * d.crs.length + 1 := (rnC_ok hab hcl hri (a5 + 1) (by omega)).1.len
            refine ws_region rfl ?_
            refine wlm 0 1 rfl rfl rfl rfl rfl rfl rfl ?_
            refine wlm 1 2 rfl rfl rfl rfl rfl rfl rfl ?_
            refine wlm 2 3 rfl rfl rfl rfl rfl rfl rfl ?_
            refine wlo 3 4 rfl rfl rfl (wo_run rfl rfl (run_indexR (C := cdInt) (i := 3) ((arcAt d c a5).toNat) rfl rfl rfl sl33 S53 rfl (by first | rfl | omega) (by first | omega | (simp only [lens]; omega))) ?_)
            refine wlo 4 5 rfl rfl rfl (wo_run rfl rfl (run_load1 rfl rfl Try.underlying3 rfl (S53.rowc (i := 3) (e := (arcAt d c a5).toNat) (j := 0) rfl (by first | omega | (simp only [lens]; omega)) rfl rfl)) ?_)
            refine wlo 5 6 rfl rfl rfl (wo_buildSlice1 (C := cdInt) (l := [_]) rfl rfl rfl rfl sl33 rfl rfl rfl rfl S53 ?_)
            intro gb7 w51 S58; clear S53
            refine wlo 6 7 rfl rfl rfl (wo_append1 (C := cdInt) (i := 1) (q := 0) (ga ((rnC d c (rn2.nm, rn2.nx) (a5 + 1)).1) ((arcAt d c a5).toNat)) rfl rfl rfl rfl rfl rfl rfl rfl sl33 S58 rfl rfl rfl (by show (_ + 1) * 8 ≤ _; first | omega | (simp only [lens]; omega)) ?_)
            intro vrav2 w52 S59; clear S58
            have S60 := S59.pick [1, 2, 3, 4, 5, 6, 7, 8, 9] [_, _, _, _, _, _, _, _, _] (by decide) ⟨rfl, rfl, rfl, rfl, rfl, rfl, rfl, rfl, rfl, trivial⟩; clear S59
            refine wla 7 8 rfl rfl rfl rfl rfl rfl rfl ?_
            refine wl_end rfl ?_
            refine nm_blk ?_
            refine nm_sub [(1, _), (2, _), (4, _), (5, _), (12, _), (13, _), (14, _), (15, _), (85, _), (86, _), (16, _), (18, _), (19, _), (20, _), (21, _)] ⟨rfl, rfl, rfl, rfl, rfl, rfl, rfl, rfl, rfl, rfl, rfl, rfl, rfl, rfl, rfl, trivial⟩ ?_
            refine nm_thn ?_
            refine ws_region rfl ?_
            refine wlm 0 1 rfl rfl rfl rfl rfl rfl rfl ?_
            refine wlo 1 2 rfl rfl rfl (wo_run rfl rfl (run_add rfl rfl rfl (by first | omega | (simp only [lens]; omega))) ?_)
            refine wla 2 3 rfl rfl rfl rfl rfl rfl rfl ?_
            refine wl_end rfl ?_
            refine nm_lp ?_
            intro ax_ hax_
            refine ⟨_, ?hq18m, ⟨a5 + 1, _, _, _, rfl, hax_.sub ⟨rfl, rfl, rfl, rfl, rfl, rfl, rfl, rfl, rfl, rfl, rfl, rfl, rfl, rfl, rfl, trivial⟩, S60.pick [0, 1, 2, 3, 4, 5, 6, 7, 8] [_, _, _, _, _, _, _, _, _] (by decide) ⟨rfl, rfl, rfl, rfl, rfl, rfl, rfl, rfl, rfl, trivial⟩, ?hq18f0, ?hq18f1, ?hq18f2⟩⟩
            case hq18f0 => omega
            case hq18f1 => (rw [List.length_append, hav]; rfl)
            case hq18f2 => (intro j hj; by_cases e : j < a5; (rw [ga_append_left _ _ _ (by omega)]; exact havg j e); (obtain rfl : j = a5 := (by omega); rw [ga_append_right _ _ _ (by omega), hav, Nat.sub_self, ← hnm9]; rfl))
            case hq18m => omega
          ·replace hb135 := of_decide_eq_false hb135
           refine ws_exit rfl rfl ?_
           refine nm_sub [(1, _), (2, _), (4, _), (5, _), (12, _), (13, _), (14, _), (15, _), (85, _), (86, _), (16, _), (18, _), (19, _), (20, _)] ⟨rfl, rfl, rfl, rfl, rfl, rfl, rfl, rfl, rfl, rfl, rfl, rfl, rfl, rfl, trivial⟩ ?_
           refine nm_thn ?_
           obtain rfl : a5 = 4 := by omega
           have hcj := (rnC_ok hab hcl hri 4 (Nat.le_refl _)).2.2.1
           have hv0 : ga av 0 = ga (rnC d c (rn2.nm, rn2.nx) 4).1 (ga d.crs c).a.toNat := (havg 0 (by omega)).trans (hcj 0 (by omega)).2
           have hv1 : ga av 1 = ga (rnC d c (rn2.nm, rn2.nx) 4).1 (ga d.crs c).b.toNat := (havg 1 (by omega)).trans (hcj 1 (by omega)).2
           have hv2 : ga av 2 = ga (rnC d c (rn2.nm, rn2.nx) 4).1 (ga d.crs c).c.toNat := (havg 2 (by omega)).trans (hcj 2 (by omega)).2
           have hv3 : ga av 3 = ga (rnC d c (rn2.nm, rn2.nx) 4).1 (ga d.crs c).d.toNat := (havg 3 (by omega)).trans (hcj 3 (by omega)).2
           refine ws_draw rfl (by kernel_rfl) S52 25 rfl ?_
           clear S52
           refine wa_takeP (i := 0) (d := 161) 24 rfl (by kernel_rfl) (by kernel_rfl) (by kernel_rfl) rfl rfl rfl (fun w53 => run_fieldAddr rfl rfl Try.underlying24 rfl (ce22) (nf22)) ?_
           refine wa_take (i := 1) (d := 162) 23 rfl (by kernel_rfl) (by kernel_rfl) (by kernel_rfl) rfl rfl rfl (fun M31 N25 w54 hle33 S62 => .inl (run_load1 rfl rfl Try.underlying22 rfl (S62.suf.boxc (i := 4) rfl rfl))) ?_
           refine wa_takeP (i := 2) (d := 163) 22 rfl (by kernel_rfl) (by kernel_rfl) (by kernel_rfl) rfl rfl rfl (fun w55 => run_move rfl rfl) ?_
           refine wa_take (i := 3) (d := 164) 21 rfl (by kernel_rfl) (by kernel_rfl) (by kernel_rfl) rfl rfl rfl (fun M33 N27 w56 hle35 S64 => .inl (run_indexR (C := cdInt) (i := 0) 0 rfl rfl rfl sl33 S64.suf rfl (by first | rfl | omega) (by first | omega | (simp only [lens]; omega)))) ?_
           refine wa_take (i := 4) (d := 165) 20 rfl (by kernel_rfl) (by kernel_rfl) (by kernel_rfl) rfl rfl rfl (fun M34 N28 w57 hle36 S65 => .inl (run_load1 rfl rfl Try.underlying3 rfl (S65.suf.rowc (i := 0) (e := 0) (j := 0) rfl (by first | omega | (simp only [lens]; omega)) rfl rfl))) ?_
           refine wa_takeP (i := 5) (d := 166) 19 rfl (by kernel_rfl) (by kernel_rfl) (by kernel_rfl) rfl rfl rfl (fun w58 => run_move rfl rfl) ?_
           refine wa_take (i := 6) (d := 167) 18 rfl (by kernel_rfl) (by kernel_rfl) (by kernel_rfl) rfl rfl rfl (fun M36 N30 w59 hle38 S67 => .inl (run_indexR (C := cdInt) (i := 0) 1 rfl rfl rfl sl33 S67.suf rfl (by first | rfl | omega) (by first | omega | (simp only [lens]; omega)))) ?_
           refine wa_take (i := 7) (d := 168) 17 rfl (by kernel_rfl) (by kernel_rfl) (by kernel_rfl) rfl rfl rfl (fun M37 N31 w60 hle39 S68 => .inl (run_load1 rfl rfl Try.underlying3 rfl (S68.suf.rowc (i := 0) (e := 1) (j := 0) rfl (by first | omega | (simp only [lens]; omega)) rfl rfl))) ?_
           refine wa_takeP (i := 8) (d := 169) 16 rfl (by kernel_rfl) (by kernel_rfl) (by kernel_rfl) rfl rfl rfl (fun w61 => run_move rfl rfl) ?_
           refine wa_take (i := 9) (d := 170) 15 rfl (by kernel_rfl) (by kernel_rfl) (by kernel_rfl) rfl rfl rfl (fun M39 N33 w62 hle41 S70 => .inl (run_indexR (C := cdInt) (i := 0) 2 rfl rfl rfl sl33 S70.suf rfl (by first | rfl | omega) (by first | omega | (simp only [lens]; omega)))) ?_
           refine wa_take (i := 10) (d := 171) 14 rfl (by kernel_rfl) (by kernel_rfl) (by kernel_rfl) rfl rfl rfl (fun M40 N34 w63 hle42 S71 => .inl (run_load1 rfl rfl Try.underlying3 rfl (S71.suf.rowc (i := 0) (e := 2) (j := 0) rfl (by first | omega | (simp only [lens]; omega)) rfl rfl))) ?_
           refine wa_takeP (i := 11) (d := 172) 13 rfl (by kernel_rfl) (by kernel_rfl) (by kernel_rfl) rfl rfl rfl (fun w64 => run_move rfl rfl) ?_
           refine wa_take (i := 12) (d := 173) 12 rfl (by kernel_rfl) (by kernel_rfl) (by kernel_rfl) rfl rfl rfl (fun M42 N36 w65 hle44 S73 => .inl (run_indexR (C := cdInt) (i := 0) 3 rfl rfl rfl sl33 S73.suf rfl (by first | rfl | omega) (by first | omega | (simp only [lens]; omega)))) ?_
           refine wa_take (i := 13) (d := 174) 11 rfl (by kernel_rfl) (by kernel_rfl) (by kernel_rfl) rfl rfl rfl (fun M43 N37 w66 hle45 S74 => .inl (run_load1 rfl rfl Try.underlying3 rfl (S74.suf.rowc (i := 0) (e := 3) (j := 0) rfl (by first | omega | (simp only [lens]; omega)) rfl rfl))) ?_
           refine wa_takeP (i := 14) (d := 175) 10 rfl (by kernel_rfl) (by kernel_rfl) (by kernel_rfl) rfl rfl rfl (fun w67 => run_fieldAddr rfl rfl Try.underlying24 rfl (ce22) (nf22)) ?_
           refine wa_take (i := 15) (d := 176) 9 rfl (by kernel_rfl) (by kernel_rfl) (by kernel_rfl) rfl rfl rfl (fun M45 N39 w68 hle47 S76 => .inl (run_load1 rfl rfl Try.underlying22 rfl (S76.suf.boxc (i := 8) rfl rfl))) ?_
           refine wa_takeP (i := 16) (d := 177) 8 rfl (by kernel_rfl) (by kernel_rfl) (by kernel_rfl) rfl rfl rfl (fun w69 => run_move rfl rfl) ?_
           refine wa_take (i := 17) (d := 178) 7 rfl (by kernel_rfl) (by kernel_rfl) (by kernel_rfl) rfl rfl rfl (fun M47 N41 w70 hle49 S78 => .inl (run_indexM (C := cdCr) c rfl rfl rfl sl22 (by first | rfl | omega) (hdcrs.mono (Hp.un_mono hle49 S78.mx)) (by first | omega | (simp only [lens]; omega)))) ?_
           refine wa_takeP (i := 18) (d := 179) 6 rfl (by kernel_rfl) (by kernel_rfl) (by kernel_rfl) rfl rfl rfl (fun w71 => run_fieldAddr rfl rfl Try.underlying59 rfl (ce4) (nf4)) ?_
           refine wa_take (i := 19) (d := 180) 5 rfl (by kernel_rfl) (by kernel_rfl) (by kernel_rfl) rfl rfl rfl (fun M49 N43 w72 hle51 S80 => .inl (run_load1 rfl rfl Try.underlying4 rfl ((hdcrs.mono (Hp.un_mono hle51 S80.mx)).cell S80.um (i := c) (by first | omega | (simp only [lens]; omega)) 4 rfl rfl))) ?_
           refine wa_take (i := 20) (d := 181) 4 rfl (by kernel_rfl) (by kernel_rfl) (by kernel_rfl) rfl rfl rfl (fun M50 N44 w73 hle52 S81 => .inl (run_build (l := [_, _, _, _, _]) rfl rfl st59 rfl rfl)) ?_
           refine wa_only (i := 21) 3 rfl (by kernel_rfl) rfl rfl (fun w75 S83 => ?_)
           refine (wo_buildSlice1 (C := cdCr) (l := [_, _, _, _, _]) rfl rfl rfl rfl sl22 rfl rfl rfl rfl S83 ?_)
           intro gb8 w76 S84; clear S83
           refine LeftW.grow [_] (Hp.le_refl _) S84 ?_; clear S84
           change WA _ _ _ _ _ _ _ _ _ _ _ _ [_, _, _, _, _, _, _, _, _, _]
           refine wa_only (i := 22) 2 rfl (by kernel_rfl) rfl rfl (fun w78 S86 => ?_)
           refine (wo_append1 (C := cdCr) (i := 2) (q := 0) (⟨ga av 0, ga av 1, ga av 2, ga av 3, (ga d.crs c).plus⟩ : Cr) rfl rfl rfl rfl rfl rfl rfl rfl sl22 S86 rfl rfl rfl (by (show (_ + 1) * 40 ≤ _; omega)) ?_)
           intro vro1 w79 S87; clear S86
           have S88 := S87.pick [1, 2, 3, 4, 5, 6, 7, 8, 9] [_, _, _, _, _, _, _, _, _] (by decide) ⟨rfl, rfl, rfl, rfl, rfl, rfl, rfl, rfl, rfl, trivial⟩; clear S87
           refine LeftW.turn (by kernel_rfl) S88 ?_; clear S88
           change WA _ _ _ _ _ _ _ _ _ _ _ _ [_, _, _, _, _, _, _, _, _]
           refine wa_takeP (i := 23) (d := 184) 1 rfl (by kernel_rfl) (by kernel_rfl) (by kernel_rfl) rfl rfl rfl (fun w80 => run_fieldAddr rfl rfl Try.underlying24 rfl (ce22) (nf22)) ?_
           refine wa_only (i := 24) 0 rfl (by kernel_rfl) rfl rfl (fun w82 S91 => ?_)
           refine (wo_storeB (i := 4) (us := [_]) (l' := [_, _]) (H' := [_, _, _, _, _, _, _, _, _]) rfl rfl S91 rfl rfl rfl (S91.cells1 (i := 1) rfl) sz22 rfl (ones_cons (S91.one (i := 1) rfl) rfl) rfl rfl ?_)
           intro w83 S92; clear S91
           refine LeftW.turn (by kernel_rfl) S92 ?_; clear S92
           change WA _ _ _ _ _ _ _ _ _ _ _ _ [_, _, _, _, _, _, _, _, _]
           refine wa_end (by kernel_rfl) (fun w84 S93 => ?_)
           refine nm_blk ?_
           refine nm_sub [(1, _), (2, _), (4, _), (5, _), (12, _), (13, _), (14, _), (15, _), (85, _), (86, _), (16, _), (18, _)] ⟨rfl, rfl, rfl, rfl, rfl, rfl, rfl, rfl, rfl, rfl, rfl, rfl, trivial⟩ ?_
           refine nm_thn ?_
           have hrc4 : rn2.cs ++ [(⟨ga av 0, ga av 1, ga av 2, ga av 3, (ga d.crs c).plus⟩ : Cr)] = (rnS d rn2 (c : Int)).cs := by (rw [hv0, hv1, hv2, hv3]; unfold rnS crN; rw [Int.toNat_natCast])
           rw [hrc4] at S93; clear hrc4
           refine ws_region rfl ?_
           refine wlm 0 1 rfl rfl rfl rfl rfl rfl rfl ?_
           refine wlo 1 2 rfl rfl rfl (wo_run rfl rfl (run_add rfl rfl rfl (by first | omega | (simp only [lens]; omega))) ?_)
           refine wla 2 3 rfl rfl rfl rfl rfl rfl rfl ?_
           refine wl_end rfl ?_
           refine nm_lp ?_
           intro ax_ hax_
           refine ⟨_, ?hq19m, ⟨q + 1, (rnS d rn2 (c : Int)), _, _, _, (hle30), rfl, hax_.sub ⟨rfl, rfl, rfl, rfl, rfl, rfl, rfl, rfl, rfl, rfl, rfl, rfl, trivial⟩, S93.pick [1, 2, 3, 4, 5, 6, 7, 8] [_, _, _, _, _, _, _, _] (by decide) ⟨rfl, rfl, rfl, rfl, rfl, rfl, rfl, rfl, trivial⟩, ?hq19f0, ?hq19f1⟩⟩
           case hq19f0 => omega
           case hq19f1 => (rw [take_ga _ q (by omega), hcn, ← List.append_assoc, rnF_snoc, ← hrn2])
           case hq19m => omega
        ·replace hb124 := of_decide_eq_false hb124
         refine ws_exit rfl rfl ?_
         refine nm_blk ?_
         refine nm_sub [(1, _), (2, _), (4, _), (5, _), (12, _), (13, _), (14, _), (15, _), (85, _), (86, _)] ⟨rfl, rfl, rfl, rfl, rfl, rfl, rfl, rfl, rfl, rfl, trivial⟩ ?_
         refine nm_thn ?_
         refine ws_region rfl ?_
         refine wlo 0 1 rfl rfl rfl (wo_run rfl rfl (run_add rfl rfl rfl (by first | omega | (simp only [lens]; omega))) ?_)
         refine wlm 1 2 rfl rfl rfl rfl rfl rfl rfl ?_
         refine wl_end rfl ?_
         refine nm_lp ?_
         intro ax_ hax_
         refine ⟨_, ?hq20m, ⟨t + 1, (κ ++ [k1]), _, rn2, _, _, _, _, (hle5.trans hle30), rfl, hax_.sub ⟨rfl, rfl, rfl, rfl, rfl, rfl, rfl, rfl, rfl, rfl, trivial⟩, S50.pick [0, 1, 2, 3, 4, 5, 6, 7] [_, _, _, _, _, _, _, _] (by decide) ⟨rfl, rfl, rfl, rfl, rfl, rfl, rfl, rfl, trivial⟩, ?hq20f0, ?hq20f1, ?hq20f2, ?hq20f3, ?hq20f4, ?hq20f5⟩⟩
         case hq20f0 => omega
         case hq20f1 => simp [hκl]
         case hq20f2 => simpa using hul
         case hq20f3 => (intro x hx; rw [ga_set _ _ _ _ (by omega)]; by_cases e : k1 = x; (rw [if_pos e]; simp [e]); (rw [if_neg e, hus x hx]; have e2 : ¬ x = k1 := (fun h => e h.symm); simp [e2]))
         case hq20f4 => exact hsel.snoc hk1m hk1n hk1b
         case hq20f5 => (obtain rfl : q = (ga oxs k1).length := (by omega); rw [hrn2, List.take_length, hog k1 hk1m]; simp)
         case hq20m => omega
    ·replace hb87 := of_decide_eq_false hb87
     refine ws_exit rfl rfl ?_
     refine nm_sub [(2, _), (12, _)] ⟨rfl, rfl, trivial⟩ ?_
     refine nm_thn ?_
     refine ws_seqN CanonForm_n145 CanonForm_n146 rfl rfl rfl ?_
     refine ws_region rfl ?_
     refine wlo 0 1 rfl rfl rfl (wo_run rfl rfl (run_loadN (us := [_, _]) rfl rfl Try.underlying24 rfl sz24 (S21.boxcs (i := 3) rfl ⟨rfl, rfl, trivial⟩)) ?_)
     refine wlo 1 2 rfl rfl rfl (wo_storeB (i := 6) (us := [_, _]) (l' := [_, _]) (H' := [_, _, _, _, _, _, _, _]) rfl rfl S21 rfl rfl rfl rfl sz24 rfl (ones_cons (S21.one (i := 0) rfl) (ones_cons rfl rfl)) rfl rfl ?_)
     intro w85 S94; clear S21
     refine wl_end rfl ?_
     refine nm_sub [(2, _)] ⟨rfl, trivial⟩ ?_
     refine nm_thn ?_
     obtain ⟨M55, hle57, S95, ⟨A3, c3, e2, hr8⟩⟩ := S94.pubrow (i := 0) (H' := [_, _, _, _, _, _, _, _]) rfl rfl (by show _ * 40 ≤ _; first | omega | (simp only [lens]; omega))
     clear S94; subst e2
     replace hdcrs := hdcrs.mono (Hp.un_mono hle57 S95.mx)
     replace hr1 := hr1.mono hle57
     replace hcv := hcv.mono hle57
     replace hov := hov.mono hle57
     refine ws_ret hC [_] rfl rfl ⟨⟨_, rfl, loadVarN (us := [_, _]) Try.underlying24 rfl sz24 (S95.boxcs (i := 6) rfl ⟨rfl, rfl, trivial⟩)⟩, trivial⟩ ?_
     refine ⟨_, rfl, _, ((hle1.trans hle2).trans hle5).trans hle57, (S95.pick [] [] (by decide) trivial), ?_⟩
     obtain rfl : t = (pcsL d).length := by omega
     have e9 : (canD d).crs = rn.cs := by unfold canD seqD; rw [sK_eq (hsel.sort hκl), hrn, List.flatMap_map]
     rw [e9]
     exact ⟨_, _, rfl, hr8⟩
end Go.Proofs.Ytefkjfcncpmneaa
