/- Part 7 of the proof of the law TangleLinks: the walks through its functions and the plain laws that they need. -/
import Derived.Test.YtkgofmloleicgaaTlZ6
set_option linter.unusedSimpArgs false
set_option linter.unusedVariables false
namespace Go.Proofs.Ytkgofmloleicgaa
open Go.ChangeShapes Go.WideShapes Go.ChangeAt Go.RowKit
/-- Each pair is what is found at its ends. -/
def Uq (t : Pr) : Prop := ∀ i, i < t.a.length → tieF (zL t) (ga t.a i) = some (ga t.b i) ∧ tieF (zL t) (ga t.b i) = some (ga t.a i)
def sn (k : Nat) : List Bool := [decide (0 < k), decide (0 < k), decide (2 < k), decide (2 < k)]
def rK (D : Tie) (k : Nat) : Sp := (D (vt ((k : Int) + 1))).getD default
def lpK (D : Tie) (k : Nat) : Int := (if 0 < k then rgc D 1 else 0) + (if 2 < k then rgc D 3 else 0)
def rgT9 (D : Tie) (k j : Nat) : Bool := if j = 0 then true else decide ((rK D k).c < 0)
def atR (D : Tie) (k j : Nat) : Sp := if j = 0 then vt (k : Int) else rK D k
def snJ (k j : Nat) : List Bool := if j = 0 then sn k else sn (k + 1)
theorem sn_even {k : Nat} (hk : k < 4) (h : ¬ ga (sn k) k = true) : k = 0 ∨ k = 2 := by
 have : k = 0 ∨ k = 1 ∨ k = 2 ∨ k = 3 := by omega
 rcases this with rfl | rfl | rfl | rfl
 ·exact .inl rfl
 ·exact absurd rfl h
 ·exact .inr rfl
 ·exact absurd rfl h
theorem sn_odd {k : Nat} (hk : k < 4) (h : ga (sn k) k = true) : sn (k + 1) = sn k ∧ ∀ D, lpK D (k + 1) = lpK D k := by
 have : k = 0 ∨ k = 1 ∨ k = 2 ∨ k = 3 := by omega
 rcases this with rfl | rfl | rfl | rfl
 ·exact absurd h (by decide)
 ·exact ⟨rfl, fun D => rfl⟩
 ·exact absurd h (by decide)
 ·exact ⟨rfl, fun D => rfl⟩
/-- What the two arcs' ends are tied to. -/
def Vd (D : Tie) : Prop := (∃ r, D (vt 1) = some r ∧ (0 ≤ r.c ∨ r = vt 0)) ∧ ∃ r, D (vt 3) = some r ∧ (0 ≤ r.c ∨ r = vt 2)
theorem vd_k {D : Tie} (h : Vd D) {k : Nat} (hk : k = 0 ∨ k = 2) : D (vt ((k : Int) + 1)) = some (rK D k) ∧ (0 ≤ (rK D k).c ∨ rK D k = vt (k : Int)) ∧ flp (k : Int) = (k : Int) + 1 := by
 obtain ⟨⟨r, h1, h2⟩, r', h3, h4⟩ := h
 rcases hk with rfl | rfl
 ·have e : rK D 0 = r := by show (D (vt 1)).getD default = r; rw [h1]; rfl
  rw [e]; exact ⟨h1, h2, rfl⟩
 ·have e : rK D 2 = r' := by show (D (vt 3)).getD default = r'; rw [h3]; rfl
  rw [e]; exact ⟨h3, h4, rfl⟩
theorem lpK_even {D : Tie} (h : Vd D) {k : Nat} (hk : k = 0 ∨ k = 2) : lpK D (k + 1) = lpK D k + if (rK D k).c < 0 then 1 else 0 := by
 obtain ⟨h1, _⟩ := vd_k h hk
 rcases hk with rfl | rfl
 ·have h1' : D (vt 1) = some (rK D 0) := h1
  show rgc D 1 + 0 = 0 + 0 + _
  unfold rgc; rw [h1']; simp only; omega
 ·have h1' : D (vt 3) = some (rK D 2) := h1
  show rgc D 1 + rgc D 3 = rgc D 1 + 0 + _
  unfold rgc; rw [h1']; simp only; omega
theorem lpK_bd (D : Tie) (k : Nat) : 0 ≤ lpK D k ∧ lpK D k ≤ 2 := by
 have h : ∀ v, 0 ≤ rgc D v ∧ rgc D v ≤ 1 := fun v => by
  unfold rgc
  split
  ·split <;> omega
  ·omega
 have h1 := h 1
 have h3 := h 3
 unfold lpK
 split <;> split <;> omega
theorem lpK_end (D : Tie) : lpK D 4 = rgc D 1 + rgc D 3 := rfl
theorem snJ_set {k : Nat} (hk : k = 0 ∨ k = 2) : ((sn k).set k true).set (k + 1) true = sn (k + 1) := by
 rcases hk with rfl | rfl <;> rfl
/-- The search behind the other end. -/
theorem next_a {t : Pr} {x r : Sp} {i : Nat} (hu : Uq t) (hi : i < t.a.length) (hx : tieF (zL t) x = some r) (h : ga t.a i = x) : ga t.b i = r := by
 have := (hu i hi).1; rw [h, hx] at this; injection this with this; exact this.symm
theorem next_b {t : Pr} {x r : Sp} {i : Nat} (hu : Uq t) (hi : i < t.a.length) (hx : tieF (zL t) x = some r) (h : ga t.b i = x) : ga t.a i = r := by
 have := (hu i hi).2; rw [h, hx] at this; injection this with this; exact this.symm
theorem tab_next {α : Type} {n c : Nat} (x : α) (y : α) (h : c < n) : (List.replicate c x ++ List.replicate (n - c) y).set c x = List.replicate (c + 1) x ++ List.replicate (n - (c + 1)) y := by
 rw [show n - c = (n - (c + 1)) + 1 by omega, List.replicate_succ, List.set_append_right _ _ (by simp), List.length_replicate, Nat.sub_self, List.set_cons_zero, List.replicate_succ', List.append_assoc]
 rfl
theorem rgs_ring {n : Nat} {pi : Sp → Sp} {c q : Nat} {W : Ws} (hq : q < 2) (h : ¬ 0 ≤ at2 (rgs pi n (2 * c + q)).inn (c : Int) (q : Int)) (hW : W = fullW pi ⟨(rgs pi n (2 * c + q)).ar, (rgs pi n (2 * c + q)).inn, (rgs pi n (2 * c + q)).n, ⟨(c : Int), (q : Int)⟩⟩) :
  rgs pi n (2 * c + (q + 1)) = ⟨set2 W.ar (pi ⟨(c : Int), (q : Int)⟩).c (pi ⟨(c : Int), (q : Int)⟩).a ((rgs pi n (2 * c + q)).n + 1), W.inn, W.n⟩ := by
 rw [← rgs_step pi hq, hW]
 unfold rngS rw_
 rw [if_neg h]
theorem atR_ring {D : Tie} {k j : Nat} (h : 0 ≤ (rK D k).c ∨ rK D k = vt (k : Int)) (hj : j = 0 ∨ j = 1) (hr : rgT9 D k j = true) : atR D k j = vt (k : Int) := by
 rcases hj with rfl | rfl
 ·rfl
 ·have hr' : decide ((rK D k).c < 0) = true := hr
  have hr2 : (rK D k).c < 0 := by simpa using hr'
  rcases h with h | h
  ·omega
  ·exact h
theorem ring_1 {D : Tie} {k j : Nat} (hj : j = 0 ∨ j = 1) (h : rgT9 D k j = false) : j = 1 := by
 rcases hj with rfl | rfl
 ·cases h
 ·rfl
theorem seen_0 {k j : Nat} (hk : k = 0 ∨ k = 2) (hj : j = 0 ∨ j = 1) (h : ga (snJ k j) k = false) : j = 0 := by
 rcases hj with rfl | rfl
 ·rfl
 ·rcases hk with rfl | rfl <;> cases h
theorem seen_1 {k j : Nat} (hk : k = 0 ∨ k = 2) (hj : j = 0 ∨ j = 1) (h : ga (snJ k j) k = true) : j = 1 := by
 rcases hj with rfl | rfl
 ·rcases hk with rfl | rfl <;> cases h
 ·rfl
noncomputable def Walked_n0 : Code := Try.f31.body.getD .skip
noncomputable def Walked_n1 : Code := cL Walked_n0
noncomputable def Walked_n2 : Code := cR Walked_n0
noncomputable def Walked_n3 : Code := cL Walked_n2
noncomputable def Walked_n4 : Code := cR Walked_n2
noncomputable def Walked_n5 : Code := cL Walked_n4
noncomputable def Walked_n6 : Code := cR Walked_n4
noncomputable def Walked_n7 : Code := cL Walked_n6
noncomputable def Walked_n8 : Code := cR Walked_n6
noncomputable def Walked_n9 : Code := cL Walked_n7
noncomputable def Walked_n10 : Code := cR Walked_n7
noncomputable def Walked_n11 : Code := cL Walked_n10
noncomputable def Walked_n12 : Code := cL Walked_n11
noncomputable def Walked_n13 : Code := cL Walked_n12
noncomputable def Walked_n14 : Code := cR Walked_n12
noncomputable def Walked_n15 : Code := cL Walked_n13
noncomputable def Walked_n16 : Code := cR Walked_n13
noncomputable def Walked_n17 : Code := cL Walked_n16
noncomputable def Walked_n18 : Code := cR Walked_n16
noncomputable def Walked_n19 : Code := cL Walked_n14
noncomputable def Walked_n20 : Code := cR Walked_n14
noncomputable def Walked_n21 : Code := cL Walked_n19
noncomputable def Walked_n22 : Code := cL Walked_n21
noncomputable def Walked_n23 : Code := cR Walked_n21
noncomputable def Walked_n24 : Code := cL Walked_n8
noncomputable def Walked_n25 : Code := cR Walked_n8
noncomputable def Walked_n26 : Code := cL Walked_n25
noncomputable def Walked_n27 : Code := cR Walked_n25
noncomputable def Walked_n28 : Code := cL Walked_n26
noncomputable def Walked_n29 : Code := cR Walked_n26
noncomputable def Walked_n30 : Code := cL Walked_n29
noncomputable def Walked_n31 : Code := cL Walked_n30
noncomputable def Walked_n32 : Code := cL Walked_n31
noncomputable def Walked_n33 : Code := cR Walked_n31
noncomputable def Walked_n34 : Code := cL Walked_n32
noncomputable def Walked_n35 : Code := cR Walked_n32
noncomputable def Walked_n36 : Code := cL Walked_n35
noncomputable def Walked_n37 : Code := cR Walked_n35
noncomputable def Walked_n38 : Code := cL Walked_n33
noncomputable def Walked_n39 : Code := cR Walked_n33
noncomputable def Walked_n40 : Code := cL Walked_n38
noncomputable def Walked_n41 : Code := cL Walked_n40
noncomputable def Walked_n42 : Code := cR Walked_n40
noncomputable def Walked_n43 : Code := cL Walked_n42
noncomputable def Walked_n44 : Code := cL Walked_n43
noncomputable def Walked_n45 : Code := cL Walked_n44
noncomputable def Walked_n46 : Code := cR Walked_n44
noncomputable def Walked_n47 : Code := cL Walked_n45
noncomputable def Walked_n48 : Code := cR Walked_n45
noncomputable def Walked_n49 : Code := cL Walked_n48
noncomputable def Walked_n50 : Code := cR Walked_n48
noncomputable def Walked_n51 : Code := cL Walked_n46
noncomputable def Walked_n52 : Code := cR Walked_n46
noncomputable def Walked_n53 : Code := cL Walked_n51
noncomputable def Walked_n54 : Code := cL Walked_n53
noncomputable def Walked_n55 : Code := cR Walked_n53
noncomputable def Walked_n56 : Code := cL Walked_n54
noncomputable def Walked_n57 : Code := cR Walked_n54
noncomputable def Walked_n58 : Code := cL Walked_n57
noncomputable def Walked_n59 : Code := cR Walked_n57
noncomputable def Walked_n60 : Code := cL Walked_n55
noncomputable def Walked_n61 : Code := cR Walked_n55
noncomputable def Walked_n62 : Code := cL Walked_n61
noncomputable def Walked_n63 : Code := cR Walked_n61
noncomputable def Walked_n64 : Code := cL Walked_n63
noncomputable def Walked_n65 : Code := cR Walked_n63
noncomputable def Walked_n66 : Code := cL Walked_n64
noncomputable def Walked_n67 : Code := cL Walked_n66
noncomputable def Walked_n68 : Code := cL Walked_n67
noncomputable def Walked_n69 : Code := cR Walked_n67
noncomputable def Walked_n70 : Code := cL Walked_n68
noncomputable def Walked_n71 : Code := cR Walked_n68
noncomputable def Walked_n72 : Code := cL Walked_n71
noncomputable def Walked_n73 : Code := cR Walked_n71
noncomputable def Walked_n74 : Code := cL Walked_n69
noncomputable def Walked_n75 : Code := cL Walked_n74
noncomputable def Walked_n76 : Code := cR Walked_n74
noncomputable def Walked_n77 : Code := cL Walked_n76
noncomputable def Walked_n78 : Code := cR Walked_n76
noncomputable def Walked_n79 : Code := cL Walked_n78
noncomputable def Walked_n80 : Code := cR Walked_n78
noncomputable def Walked_n81 : Code := cL Walked_n80
noncomputable def Walked_n82 : Code := cR Walked_n80
noncomputable def Walked_n83 : Code := cL Walked_n82
noncomputable def Walked_n84 : Code := cR Walked_n82
noncomputable def Walked_n85 : Code := cL Walked_n65
noncomputable def Walked_n86 : Code := cR Walked_n65
noncomputable def Walked_n87 : Code := cL Walked_n27
noncomputable def Walked_n88 : Code := cR Walked_n27
noncomputable def Walked_n89 : Code := cL Walked_n88
noncomputable def Walked_n90 : Code := cR Walked_n88
noncomputable def Walked_n91 : Code := cL Walked_n89
noncomputable def Walked_n92 : Code := cR Walked_n89
noncomputable def Walked_n93 : Code := cL Walked_n92
noncomputable def Walked_n94 : Code := cL Walked_n93
noncomputable def Walked_n95 : Code := cL Walked_n94
noncomputable def Walked_n96 : Code := cR Walked_n94
noncomputable def Walked_n97 : Code := cL Walked_n95
noncomputable def Walked_n98 : Code := cR Walked_n95
noncomputable def Walked_n99 : Code := cL Walked_n98
noncomputable def Walked_n100 : Code := cR Walked_n98
noncomputable def Walked_n101 : Code := cL Walked_n96
noncomputable def Walked_n102 : Code := cR Walked_n96
noncomputable def Walked_n103 : Code := cL Walked_n101
noncomputable def Walked_n104 : Code := cL Walked_n103
noncomputable def Walked_n105 : Code := cR Walked_n103
noncomputable def Walked_n106 : Code := cL Walked_n105
noncomputable def Walked_n107 : Code := cR Walked_n105
noncomputable def Walked_n108 : Code := cL Walked_n90
noncomputable def Walked_n109 : Code := cR Walked_n90
noncomputable def Walked_n110 : Code := cL Walked_n109
noncomputable def Walked_n111 : Code := cR Walked_n109
noncomputable def Walked_n112 : Code := cL Walked_n110
noncomputable def Walked_n113 : Code := cR Walked_n110
noncomputable def Walked_n114 : Code := cL Walked_n113
noncomputable def Walked_n115 : Code := cL Walked_n114
noncomputable def Walked_n116 : Code := cL Walked_n115
noncomputable def Walked_n117 : Code := cR Walked_n115
noncomputable def Walked_n118 : Code := cL Walked_n116
noncomputable def Walked_n119 : Code := cR Walked_n116
noncomputable def Walked_n120 : Code := cL Walked_n119
noncomputable def Walked_n121 : Code := cR Walked_n119
noncomputable def Walked_n122 : Code := cL Walked_n117
noncomputable def Walked_n123 : Code := cR Walked_n117
noncomputable def Walked_n124 : Code := cL Walked_n122
noncomputable def Walked_n125 : Code := cL Walked_n124
noncomputable def Walked_n126 : Code := cR Walked_n124
noncomputable def Walked_n127 : Code := cL Walked_n125
noncomputable def Walked_n128 : Code := cR Walked_n125
noncomputable def Walked_n129 : Code := cL Walked_n128
noncomputable def Walked_n130 : Code := cR Walked_n128
noncomputable def Walked_n131 : Code := cL Walked_n126
noncomputable def Walked_n132 : Code := cR Walked_n126
noncomputable def Walked_n133 : Code := cL Walked_n132
noncomputable def Walked_n134 : Code := cR Walked_n132
noncomputable def Walked_n135 : Code := cL Walked_n134
noncomputable def Walked_n136 : Code := cR Walked_n134
noncomputable def Walked_n137 : Code := cL Walked_n135
noncomputable def Walked_n138 : Code := cL Walked_n137
noncomputable def Walked_n139 : Code := cL Walked_n138
noncomputable def Walked_n140 : Code := cR Walked_n138
noncomputable def Walked_n141 : Code := cL Walked_n139
noncomputable def Walked_n142 : Code := cR Walked_n139
noncomputable def Walked_n143 : Code := cL Walked_n142
noncomputable def Walked_n144 : Code := cR Walked_n142
noncomputable def Walked_n145 : Code := cL Walked_n140
noncomputable def Walked_n146 : Code := cL Walked_n145
noncomputable def Walked_n147 : Code := cR Walked_n145
noncomputable def Walked_n148 : Code := cL Walked_n147
noncomputable def Walked_n149 : Code := cR Walked_n147
noncomputable def Walked_n150 : Code := cL Walked_n149
noncomputable def Walked_n151 : Code := cR Walked_n149
noncomputable def Walked_n152 : Code := cL Walked_n151
noncomputable def Walked_n153 : Code := cR Walked_n151
noncomputable def Walked_n154 : Code := cL Walked_n153
noncomputable def Walked_n155 : Code := cR Walked_n153
noncomputable def Walked_n156 : Code := cL Walked_n154
noncomputable def Walked_n157 : Code := cR Walked_n154
noncomputable def Walked_n158 : Code := cL Walked_n157
noncomputable def Walked_n159 : Code := cL Walked_n158
noncomputable def Walked_n160 : Code := cL Walked_n159
noncomputable def Walked_n161 : Code := cR Walked_n159
noncomputable def Walked_n162 : Code := cL Walked_n160
noncomputable def Walked_n163 : Code := cR Walked_n160
noncomputable def Walked_n164 : Code := cL Walked_n163
noncomputable def Walked_n165 : Code := cR Walked_n163
noncomputable def Walked_n166 : Code := cL Walked_n161
noncomputable def Walked_n167 : Code := cR Walked_n161
noncomputable def Walked_n168 : Code := cL Walked_n166
noncomputable def Walked_n169 : Code := cL Walked_n168
noncomputable def Walked_n170 : Code := cR Walked_n168
noncomputable def Walked_n171 : Code := cL Walked_n169
noncomputable def Walked_n172 : Code := cR Walked_n169
noncomputable def Walked_n173 : Code := cL Walked_n172
noncomputable def Walked_n174 : Code := cR Walked_n172
noncomputable def Walked_n175 : Code := cL Walked_n170
noncomputable def Walked_n176 : Code := cR Walked_n170
noncomputable def Walked_n177 : Code := cL Walked_n176
noncomputable def Walked_n178 : Code := cR Walked_n176
noncomputable def Walked_n179 : Code := cL Walked_n155
noncomputable def Walked_n180 : Code := cR Walked_n155
noncomputable def Walked_n181 : Code := cL Walked_n136
noncomputable def Walked_n182 : Code := cR Walked_n136
noncomputable def Walked_n183 : Code := cL Walked_n182
noncomputable def Walked_n184 : Code := cR Walked_n182
noncomputable def Walked_n185 : Code := cL Walked_n111
noncomputable def Walked_n186 : Code := cR Walked_n111
set_option maxHeartbeats 4000000 in
set_option maxRecDepth 10000 in
theorem Walked_t {w : World} {M : Hp} {X : Fr} (t : Pr) {taA : Option Addr} {tac : Nat} {tbA : Option Addr} {tbc : Nat} (n : Nat) (hta : RdA cdSp (M.un X.h) taA tac t.a) (htb : RdA cdSp (M.un X.h) tbA tbc t.b) (hlen : t.a.length = t.b.length) (hn : n ≤ 16) (hp : PiOk n (oth (zL t))) (hth : ∀ s, Rl n s → Thr (tieF (zL t)) s (oth (zL t) s)) (hu : Uq t) (hvd : Vd (tieF (zL t))) (S : SH w M X []) : Ct Try.prog 31 [.agg [.slice taA t.a.length tac, .slice tbA t.b.length tbc].toArray, .int .i64 (n : Int)] w M X (DgO (dgW (oth (zL t)) n (rgc (tieF (zL t)) 1 + rgc (tieF (zL t)) 3))) := by
 unfold Ct
 have rmhta : t.a.length * 16 ≤ 140737488355328 := hta.room
 have rmhtb : t.b.length * 16 ≤ 140737488355328 := htb.room
 refine calls_in (b := Walked_n0) Try.func31 rfl Try.ntmps31 rfl (fun C hC => ?_)
 refine ws_sub [(0, _), (1, _)] ⟨rfl, rfl, trivial⟩ ?_
 refine ws_seqN Walked_n1 Walked_n2 rfl rfl rfl ?_
 refine ws_region rfl ?_
 refine wlo 0 1 rfl rfl rfl (wo_box (l := [_, _]) rfl rfl rfl rfl rfl S ?_)
 intro gb1 w1 S1; clear S
 refine wlo 1 2 rfl rfl rfl (wo_alloc (l := [_, _]) rfl rfl rfl zr41 rfl S1 ?_)
 intro gb2 w2 S2; clear S1
 refine wl_end rfl ?_
 refine nm_sub [(1, _), (2, _), (4, _)] ⟨rfl, rfl, rfl, trivial⟩ ?_
 refine nm_thn ?_
 refine ws_seqN Walked_n3 Walked_n4 rfl rfl rfl ?_
 refine ws_region rfl ?_
 refine wlm 0 1 rfl rfl rfl rfl rfl rfl rfl ?_
 refine wlo 1 2 rfl rfl rfl (wo_make (C := (cdV 27)) n rfl rfl rfl rfl rfl sl83 (by first | rfl | omega) (by show _ * 24 ≤ _; first | omega | (simp only [lens]; omega)) S2 ?_)
 intro vr1 w3 S3; clear S2
 have S4 := S3.newtab cdInt n; clear S3
 refine wla 2 3 rfl rfl rfl rfl rfl rfl rfl ?_
 refine wl_end rfl ?_
 refine nm_sub [(1, _), (2, _), (4, _), (5, _)] ⟨rfl, rfl, rfl, rfl, trivial⟩ ?_
 refine nm_thn ?_
 refine ws_seqN Walked_n5 Walked_n6 rfl rfl rfl ?_
 refine ws_region rfl ?_
 refine wlm 0 1 rfl rfl rfl rfl rfl rfl rfl ?_
 refine wlo 1 2 rfl rfl rfl (wo_make (C := (cdV 27)) n rfl rfl rfl rfl rfl sl83 (by first | rfl | omega) (by show _ * 24 ≤ _; first | omega | (simp only [lens]; omega)) S4 ?_)
 intro vr2 w4 S5; clear S4
 have S6 := S5.newtab cdInt n; clear S5
 refine wla 2 3 rfl rfl rfl rfl rfl rfl rfl ?_
 refine wl_end rfl ?_
 refine nm_sub [(1, _), (2, _), (4, _), (5, _), (6, _)] ⟨rfl, rfl, rfl, rfl, rfl, trivial⟩ ?_
 refine nm_thn ?_
 refine ws_seqN Walked_n7 Walked_n8 rfl rfl rfl ?_
 refine ws_seqN Walked_n9 Walked_n10 rfl rfl rfl ?_
 refine ws_region rfl ?_
 refine wla 0 1 rfl rfl rfl rfl rfl rfl rfl ?_
 refine wl_end rfl ?_
 refine nm_thn ?_
 refine ws_blockN Walked_n11 0 rfl rfl rfl ?_
 refine ws_loopE (fun mx_ ax_ wx_ => ∃ (c : Nat) (vsA : List SlV) (vsN : List SlV) (A : List (List Int)) (N : List (List Int)) (vro0 : Value) (vrn0 : Value), mx_ = n - 1 * c ∧ Env 260 [(1, .int .i64 (n : Int)), (2, .pointer (some ⟨gb1, 0, none⟩)), (4, .pointer (some ⟨gb2, 0, none⟩)), (5, vro0), (6, vrn0), (7, .int .i64 (c : Int))] ax_ ∧ SH wx_ M X [Rs.tab cdInt vsN N, Rs.row (cdV 27) vrn0 vsN, Rs.tab cdInt vsA A, Rs.row (cdV 27) vro0 vsA, Rs.box gb2 41 [.slice none 0 0, .int .i64 0], Rs.box gb1 59 [.slice taA t.a.length tac, .slice tbA t.b.length tbc]] ∧ c ≤ n ∧ A = List.replicate c [0, 0, 0, 0] ++ List.replicate (n - c) [] ∧ N = List.replicate c [-1, -1] ++ List.replicate (n - c) [] ∧ (vsA.length = n ∧ vsN.length = n)) rfl ?_ ?_
 ·intro ax_ hax_
  refine ⟨_, ⟨0, _, _, _, _, _, _, rfl, hax_.sub ⟨rfl, rfl, rfl, rfl, rfl, rfl, trivial⟩, S6.pick [0, 1, 2, 3, 4, 5] [_, _, _, _, _, _] (by decide) ⟨rfl, rfl, rfl, rfl, rfl, rfl, trivial⟩, ?hq1f0, ?hq1f1, ?hq1f2, ?hq1f3⟩⟩
  case hq1f0 => exact Nat.zero_le _
  case hq1f1 => rfl
  case hq1f2 => rfl
  case hq1f3 => simp
 ·rintro m1 a1 w5 ⟨c, vsA, vsN, A, N, vro0, vrn0, rfl, he1, S7, hc, hA, hN, hvl⟩
  clear S6
  refine ws_in he1 (c := Walked_n12) rfl ?_
  clear he1 a1
  have hAl : A.length = n := by rw [hA]; simp; omega
  have hNl : N.length = n := by rw [hN]; simp; omega
  refine ws_seqN Walked_n13 Walked_n14 rfl rfl rfl ?_
  refine ws_seqN Walked_n15 Walked_n16 rfl rfl rfl ?_
  refine ws_region rfl ?_
  refine wlm 0 1 rfl rfl rfl rfl rfl rfl rfl ?_
  refine wlm 1 2 rfl rfl rfl rfl rfl rfl rfl ?_
  refine wlo 2 3 rfl rfl rfl (wo_run rfl rfl (run_lss rfl rfl rfl) ?_)
  refine wl_end rfl ?_
  refine nm_sub [(1, _), (2, _), (4, _), (5, _), (6, _), (7, _), (32, _)] ⟨rfl, rfl, rfl, rfl, rfl, rfl, rfl, trivial⟩ ?_
  refine nm_thn ?_
  refine ws_condN Walked_n17 Walked_n18 rfl rfl rfl rfl (fun hb32 => ?_) (fun hb32 => ?_)
  ·replace hb32 := of_decide_eq_true hb32
   refine ws_skip rfl ?_
   refine nm_sub [(1, _), (2, _), (4, _), (5, _), (6, _), (7, _)] ⟨rfl, rfl, rfl, rfl, rfl, rfl, trivial⟩ ?_
   refine nm_thn ?_
   refine ws_seqN Walked_n19 Walked_n20 rfl rfl rfl ?_
   refine ws_blockN Walked_n21 1 rfl rfl rfl ?_
   refine ws_seqN Walked_n22 Walked_n23 rfl rfl rfl ?_
   refine ws_region rfl ?_
   refine wlm 0 1 rfl rfl rfl rfl rfl rfl rfl ?_
   refine wlm 1 2 rfl rfl rfl rfl rfl rfl rfl ?_
   refine wlo 2 3 rfl rfl rfl (wo_make (C := cdInt) 4 rfl rfl rfl rfl rfl sl27 (by first | rfl | omega) (by show _ * 8 ≤ _; first | omega | (simp only [lens]; omega)) S7 ?_)
   intro vr3 w6 S8; clear S7
   refine wlo 3 4 rfl rfl rfl (wo_run rfl rfl (run_indexR (C := (cdV 27)) (i := 4) c rfl rfl rfl sl83 S8 rfl (by first | rfl | omega) (by first | omega | (simp only [lens]; omega))) ?_)
   obtain ⟨A1, c1, rfl, _⟩ := S8.sl (i := 0) rfl
   have S10 := S8.tabput (C := cdInt) (zs := (List.replicate 4 cdInt.z)) (i := 3) (q := 0) (H' := [_, _, _, _, _, _, _]) c rfl rfl (by decide) (by first | omega | (simp only [lens]; omega) | (rw [ga_set _ _ _ _ (by first | omega | (simp only [List.length_set]; omega)), if_pos rfl]; simp only [List.length_set]; omega)) rfl; clear S8
   refine wlo 4 5 rfl rfl rfl (wo_storeR (C := (cdV 27)) (i := 4) (e := c) (j := 0) (us := [_]) (H' := [_, _, _, _, _, _, _]) (⟨A1, (List.replicate 4 cdInt.z).length, c1⟩ : SlV) rfl rfl S10 rfl (by first | omega | (simp only [lens]; omega)) rfl rfl rfl sz27 rfl rfl rfl rfl ?_)
   intro w8 S11; clear S10
   refine wl_end rfl ?_
   refine nm_sub [(1, _), (2, _), (4, _), (5, _), (6, _), (7, _)] ⟨rfl, rfl, rfl, rfl, rfl, rfl, trivial⟩ ?_
   refine nm_thn ?_
   refine ws_region rfl ?_
   refine wlm 0 1 rfl rfl rfl rfl rfl rfl rfl ?_
   refine wlm 1 2 rfl rfl rfl rfl rfl rfl rfl ?_
   refine wlo 2 3 rfl rfl rfl (wo_buildSliceN (C := cdInt) (l := [_, _]) (pl := [(0, 1), (1, 1)]) rfl rfl rfl rfl sl27 rfl rfl rfl rfl rfl S11 ?_)
   intro gb3 w10 S13; clear S11
   refine wlo 3 4 rfl rfl rfl (wo_run rfl rfl (run_indexR (C := (cdV 27)) (i := 3) c rfl rfl rfl sl83 S13 rfl (by first | rfl | omega) (by first | omega | (simp only [lens]; omega))) ?_)
   have S15 := S13.boxrow (C := cdInt) [(-1), (-1)] (i := 0) (H' := [_, _, _, _, _, _, _, _]) rfl rfl (by simp) rfl; clear S13
   have S16 := S15.tabput (C := cdInt) (zs := ([(-1), (-1)])) (i := 2) (q := 0) (H' := [_, _, _, _, _, _, _, _]) c rfl rfl (by decide) (by first | omega | (simp only [lens]; omega) | (rw [ga_set _ _ _ _ (by first | omega | (simp only [List.length_set]; omega)), if_pos rfl]; simp only [List.length_set]; omega)) rfl; clear S15
   refine wlo 4 5 rfl rfl rfl (wo_storeR (C := (cdV 27)) (i := 3) (e := c) (j := 0) (us := [_]) (H' := [_, _, _, _, _, _, _, _]) (⟨(some ⟨gb3, 0, none⟩), ([(-1), (-1)]).length, ([(-1), (-1)]).length⟩ : SlV) rfl rfl S16 rfl (by first | omega | (simp only [lens]; omega)) rfl rfl rfl sz27 rfl rfl rfl rfl ?_)
   intro w12 S17; clear S16
   refine wl_end rfl ?_
   refine nm_blk ?_
   refine nm_sub [(1, _), (2, _), (4, _), (5, _), (6, _), (7, _)] ⟨rfl, rfl, rfl, rfl, rfl, rfl, trivial⟩ ?_
   refine nm_thn ?_
   refine ws_region rfl ?_
   refine wlm 0 1 rfl rfl rfl rfl rfl rfl rfl ?_
   refine wlo 1 2 rfl rfl rfl (wo_run rfl rfl (run_add rfl rfl rfl (by first | omega | (simp only [lens]; omega))) ?_)
   refine wla 2 3 rfl rfl rfl rfl rfl rfl rfl ?_
   refine wl_end rfl ?_
   refine nm_lp ?_
   intro ax_ hax_
   refine ⟨_, ?hq2m, ⟨c + 1, _, _, _, _, _, _, rfl, hax_.sub ⟨rfl, rfl, rfl, rfl, rfl, rfl, trivial⟩, S17.pick [2, 3, 4, 5, 6, 7] [_, _, _, _, _, _] (by decide) ⟨rfl, rfl, rfl, rfl, rfl, rfl, trivial⟩, ?hq2f0, ?hq2f1, ?hq2f2, ?hq2f3⟩⟩
   case hq2f0 => omega
   case hq2f1 => (rw [hA]; exact tab_next [0, 0, 0, 0] [] (by omega))
   case hq2f2 => (rw [hN]; exact tab_next [-1, -1] [] (by omega))
   case hq2f3 => simp [hvl]
   case hq2m => omega
  ·replace hb32 := of_decide_eq_false hb32
   refine ws_exit rfl rfl ?_
   refine nm_sub [(1, _), (2, _), (4, _), (5, _), (6, _)] ⟨rfl, rfl, rfl, rfl, rfl, trivial⟩ ?_
   refine nm_thn ?_
   refine ws_seqN Walked_n24 Walked_n25 rfl rfl rfl ?_
   have hA0 : A = (rgs (oth (zL t)) n (2 * 0)).ar := by rw [hA, show c = n by omega, Nat.sub_self, List.replicate_zero, List.append_nil]; rfl
   have hN0 : N = (rgs (oth (zL t)) n (2 * 0)).inn := by rw [hN, show c = n by omega, Nat.sub_self, List.replicate_zero, List.append_nil]; rfl
   clear hA hN hc
   refine ws_region rfl ?_
   refine wla 0 1 rfl rfl rfl rfl rfl rfl rfl ?_
   refine wl_end rfl ?_
   refine nm_thn ?_
   refine ws_seqN Walked_n26 Walked_n27 rfl rfl rfl ?_
   refine ws_seqN Walked_n28 Walked_n29 rfl rfl rfl ?_
   refine ws_region rfl ?_
   refine wla 0 1 rfl rfl rfl rfl rfl rfl rfl ?_
   refine wl_end rfl ?_
   refine nm_thn ?_
   refine ws_blockN Walked_n30 2 rfl rfl rfl ?_
   refine ws_loopE (fun mx_ ax_ wx_ => ∃ (c : Nat) (A1 : List (List Int)) (N1 : List (List Int)) (m1 : Int), mx_ = n - 1 * c ∧ Env 260 [(1, .int .i64 (n : Int)), (2, .pointer (some ⟨gb1, 0, none⟩)), (4, .pointer (some ⟨gb2, 0, none⟩)), (5, vro0), (6, vrn0), (8, .int .i64 m1), (9, .int .i64 (c : Int))] ax_ ∧ SH wx_ M X [Rs.tab cdInt vsN N1, Rs.row (cdV 27) vrn0 vsN, Rs.tab cdInt vsA A1, Rs.row (cdV 27) vro0 vsA, Rs.box gb2 41 [.slice none 0 0, .int .i64 0], Rs.box gb1 59 [.slice taA t.a.length tac, .slice tbA t.b.length tbc]] ∧ c ≤ n ∧ (A1 = (rgs (oth (zL t)) n (2 * c)).ar ∧ N1 = (rgs (oth (zL t)) n (2 * c)).inn ∧ m1 = (rgs (oth (zL t)) n (2 * c)).n)) rfl ?_ ?_
   ·intro ax_ hax_
    refine ⟨_, ⟨0, _, _, _, rfl, hax_.sub ⟨rfl, rfl, rfl, rfl, rfl, rfl, rfl, trivial⟩, S7.pick [0, 1, 2, 3, 4, 5] [_, _, _, _, _, _] (by decide) ⟨rfl, rfl, rfl, rfl, rfl, rfl, trivial⟩, ?hq3f0, ?hq3f1⟩⟩
    case hq3f0 => exact Nat.zero_le _
    case hq3f1 => exact ⟨hA0, hN0, rfl⟩
   ·rintro m2 a2 w13 ⟨c, A1, N1, m1, rfl, he2, S18, hc, hr1⟩
    clear S7
    refine ws_in he2 (c := Walked_n31) rfl ?_
    clear he2 a2
    refine ws_seqN Walked_n32 Walked_n33 rfl rfl rfl ?_
    refine ws_seqN Walked_n34 Walked_n35 rfl rfl rfl ?_
    refine ws_region rfl ?_
    refine wlm 0 1 rfl rfl rfl rfl rfl rfl rfl ?_
    refine wlm 1 2 rfl rfl rfl rfl rfl rfl rfl ?_
    refine wlo 2 3 rfl rfl rfl (wo_run rfl rfl (run_lss rfl rfl rfl) ?_)
    refine wl_end rfl ?_
    refine nm_sub [(1, _), (2, _), (4, _), (5, _), (6, _), (8, _), (9, _), (45, _)] ⟨rfl, rfl, rfl, rfl, rfl, rfl, rfl, rfl, trivial⟩ ?_
    refine nm_thn ?_
    refine ws_condN Walked_n36 Walked_n37 rfl rfl rfl rfl (fun hb45 => ?_) (fun hb45 => ?_)
    ·replace hb45 := of_decide_eq_true hb45
     refine ws_skip rfl ?_
     refine nm_sub [(1, _), (2, _), (4, _), (5, _), (6, _), (8, _), (9, _)] ⟨rfl, rfl, rfl, rfl, rfl, rfl, rfl, trivial⟩ ?_
     refine nm_thn ?_
     refine ws_seqN Walked_n38 Walked_n39 rfl rfl rfl ?_
     refine ws_blockN Walked_n40 3 rfl rfl rfl ?_
     refine ws_seqN Walked_n41 Walked_n42 rfl rfl rfl ?_
     refine ws_region rfl ?_
     refine wla 0 1 rfl rfl rfl rfl rfl rfl rfl ?_
     refine wl_end rfl ?_
     refine nm_thn ?_
     refine ws_blockN Walked_n43 4 rfl rfl rfl ?_
     refine ws_loopE (fun mx_ ax_ wx_ => ∃ (q : Nat) (A2 : List (List Int)) (N2 : List (List Int)) (m2 : Int), mx_ = 2 - 1 * q ∧ Env 260 [(1, .int .i64 (n : Int)), (2, .pointer (some ⟨gb1, 0, none⟩)), (4, .pointer (some ⟨gb2, 0, none⟩)), (5, vro0), (6, vrn0), (8, .int .i64 m2), (9, .int .i64 (c : Int)), (10, .int .i64 (q : Int))] ax_ ∧ SH wx_ M X [Rs.tab cdInt vsN N2, Rs.row (cdV 27) vrn0 vsN, Rs.tab cdInt vsA A2, Rs.row (cdV 27) vro0 vsA, Rs.box gb2 41 [.slice none 0 0, .int .i64 0], Rs.box gb1 59 [.slice taA t.a.length tac, .slice tbA t.b.length tbc]] ∧ q ≤ 2 ∧ (A2 = (rgs (oth (zL t)) n (2 * c + q)).ar ∧ N2 = (rgs (oth (zL t)) n (2 * c + q)).inn ∧ m2 = (rgs (oth (zL t)) n (2 * c + q)).n)) rfl ?_ ?_
     ·intro ax_ hax_
      refine ⟨_, ⟨0, _, _, _, rfl, hax_.sub ⟨rfl, rfl, rfl, rfl, rfl, rfl, rfl, rfl, trivial⟩, S18.pick [0, 1, 2, 3, 4, 5] [_, _, _, _, _, _] (by decide) ⟨rfl, rfl, rfl, rfl, rfl, rfl, trivial⟩, ?hq4f0, ?hq4f1⟩⟩
      case hq4f0 => exact Nat.zero_le _
      case hq4f1 => exact hr1
     ·rintro m3 a3 w14 ⟨q, A2, N2, m2, rfl, he3, S19, hq, hr2⟩
      clear S18
      refine ws_in he3 (c := Walked_n44) rfl ?_
      clear he3 a3
      obtain ⟨e1, e2, e3⟩ := hr2
      have hro := (rgs_ok hp (2 * c + q) (by omega)).1
      have hsum := rgs_sum hp (2 * c + q) (by omega)
      have hAl : A2.length = n := by rw [e1, hro.ar.1]
      have hNl : N2.length = n := by rw [e2, hro.inn.1]
      have hNr : (ga N2 c).length = 2 := by rw [e2]; exact hro.inn.2 c (by omega)
      have hget : at2 (rgs (oth (zL t)) n (2 * c + q)).inn (c : Int) (q : Int) = ga (ga N2 c) q := by rw [e2]; unfold at2; simp only [Int.toNat_natCast]
      have hge := hro.ge
      refine ws_seqN Walked_n45 Walked_n46 rfl rfl rfl ?_
      refine ws_seqN Walked_n47 Walked_n48 rfl rfl rfl ?_
      refine ws_region rfl ?_
      refine wlm 0 1 rfl rfl rfl rfl rfl rfl rfl ?_
      refine wlo 1 2 rfl rfl rfl (wo_run rfl rfl (run_lss rfl rfl rfl) ?_)
      refine wl_end rfl ?_
      refine nm_sub [(1, _), (2, _), (4, _), (5, _), (6, _), (8, _), (9, _), (10, _), (49, _)] ⟨rfl, rfl, rfl, rfl, rfl, rfl, rfl, rfl, rfl, trivial⟩ ?_
      refine nm_thn ?_
      refine ws_condN Walked_n49 Walked_n50 rfl rfl rfl rfl (fun hb49 => ?_) (fun hb49 => ?_)
      ·replace hb49 := of_decide_eq_true hb49
       refine ws_skip rfl ?_
       refine nm_sub [(1, _), (2, _), (4, _), (5, _), (6, _), (8, _), (9, _), (10, _)] ⟨rfl, rfl, rfl, rfl, rfl, rfl, rfl, rfl, trivial⟩ ?_
       refine nm_thn ?_
       refine ws_seqN Walked_n51 Walked_n52 rfl rfl rfl ?_
       refine ws_blockN Walked_n53 5 rfl rfl rfl ?_
       refine ws_seqN Walked_n54 Walked_n55 rfl rfl rfl ?_
       refine ws_seqN Walked_n56 Walked_n57 rfl rfl rfl ?_
       refine ws_region rfl ?_
       refine wlm 0 1 rfl rfl rfl rfl rfl rfl rfl ?_
       refine wlm 1 2 rfl rfl rfl rfl rfl rfl rfl ?_
       refine wlo 2 3 rfl rfl rfl (wo_run rfl rfl (run_indexR (C := (cdV 27)) (i := 1) c rfl rfl rfl sl83 S19 rfl (by first | rfl | omega) (by first | omega | (simp only [lens]; omega))) ?_)
       refine wlo 3 4 rfl rfl rfl (wo_run rfl rfl (run_load1 rfl rfl Try.underlying27 rfl (S19.rowc (i := 1) (e := c) (j := 0) rfl (by first | omega | (simp only [lens]; omega)) rfl rfl)) ?_)
       refine wlm 4 5 rfl rfl rfl rfl rfl rfl rfl ?_
       refine wlo 5 6 rfl rfl rfl (wo_run rfl rfl (run_indexT (C := cdInt) (vs := vsN) (xss := N2) (i := 0) c q rfl rfl rfl rfl sl27 S19 rfl (by first | omega | (simp only [lens]; omega) | (rw [ga_set _ _ _ _ (by first | omega | (simp only [List.length_set]; omega)), if_pos rfl]; simp only [List.length_set]; omega)) (by first | rfl | omega) (by first | omega | (simp only [lens]; omega) | (rw [ga_set _ _ _ _ (by first | omega | (simp only [List.length_set]; omega)), if_pos rfl]; simp only [List.length_set]; omega))) ?_)
       refine wlo 6 7 rfl rfl rfl (wo_run rfl rfl (run_load1 rfl rfl Try.underlying3 rfl (S19.tabc (i := 0) (k := c) (e := q) (j := 0) rfl (by first | omega | (simp only [lens]; omega) | (rw [ga_set _ _ _ _ (by first | omega | (simp only [List.length_set]; omega)), if_pos rfl]; simp only [List.length_set]; omega)) (by first | omega | (simp only [lens]; omega) | (rw [ga_set _ _ _ _ (by first | omega | (simp only [List.length_set]; omega)), if_pos rfl]; simp only [List.length_set]; omega)) rfl rfl)) ?_)
       refine wlo 7 8 rfl rfl rfl (wo_run rfl rfl (run_geq rfl rfl rfl) ?_)
       refine wl_end rfl ?_
       refine nm_sub [(1, _), (2, _), (4, _), (5, _), (6, _), (8, _), (9, _), (10, _), (59, _)] ⟨rfl, rfl, rfl, rfl, rfl, rfl, rfl, rfl, rfl, trivial⟩ ?_
       refine nm_thn ?_
       refine ws_condN Walked_n58 Walked_n59 rfl rfl rfl rfl (fun hb59 => ?_) (fun hb59 => ?_)
       ·replace hb59 := of_decide_eq_true hb59
        refine ws_exit rfl rfl ?_
        refine nm_sub [(1, _), (2, _), (4, _), (5, _), (6, _), (8, _), (9, _), (10, _)] ⟨rfl, rfl, rfl, rfl, rfl, rfl, rfl, rfl, trivial⟩ ?_
        refine nm_thn ?_
        refine ws_region rfl ?_
        refine wlm 0 1 rfl rfl rfl rfl rfl rfl rfl ?_
        refine wlo 1 2 rfl rfl rfl (wo_run rfl rfl (run_add rfl rfl rfl (by first | omega | (simp only [lens]; omega))) ?_)
        refine wla 2 3 rfl rfl rfl rfl rfl rfl rfl ?_
        refine wl_end rfl ?_
        refine nm_lp ?_
        intro ax_ hax_
        refine ⟨_, ?hq5m, ⟨q + 1, _, _, _, rfl, hax_.sub ⟨rfl, rfl, rfl, rfl, rfl, rfl, rfl, rfl, trivial⟩, S19.pick [0, 1, 2, 3, 4, 5] [_, _, _, _, _, _] (by decide) ⟨rfl, rfl, rfl, rfl, rfl, rfl, trivial⟩, ?hq5f0, ?hq5f1⟩⟩
        case hq5f0 => omega
        case hq5f1 => first | (rw [← rgs_stay (oth (zL t)) (by omega) (by rw [hget]; omega)]; exact ⟨e1, e2, e3⟩) | (rw [hring]; exact ⟨rfl, rfl, rfl⟩)
        case hq5m => omega
       ·replace hb59 := of_decide_eq_false hb59
        refine ws_skip rfl ?_
        refine nm_sub [(1, _), (2, _), (4, _), (5, _), (6, _), (8, _), (9, _), (10, _)] ⟨rfl, rfl, rfl, rfl, rfl, rfl, rfl, rfl, trivial⟩ ?_
        refine nm_thn ?_
        refine ws_seqN Walked_n60 Walked_n61 rfl rfl rfl ?_
        refine ws_region rfl ?_
        refine wlm 0 1 rfl rfl rfl rfl rfl rfl rfl ?_
        refine wlo 1 2 rfl rfl rfl (wo_run rfl rfl (run_add rfl rfl rfl (by first | omega | (simp only [lens]; omega))) ?_)
        refine wla 2 3 rfl rfl rfl rfl rfl rfl rfl ?_
        refine wl_end rfl ?_
        refine nm_sub [(1, _), (2, _), (4, _), (5, _), (6, _), (8, _), (9, _), (10, _), (11, _)] ⟨rfl, rfl, rfl, rfl, rfl, rfl, rfl, rfl, rfl, trivial⟩ ?_
        refine nm_thn ?_
        refine ws_seqN Walked_n62 Walked_n63 rfl rfl rfl ?_
        refine ws_region rfl ?_
        refine wlm 0 1 rfl rfl rfl rfl rfl rfl rfl ?_
        refine wlm 1 2 rfl rfl rfl rfl rfl rfl rfl ?_
        refine wlo 2 3 rfl rfl rfl (wo_run rfl rfl (run_build (l := [_, _]) rfl rfl st61 rfl rfl) ?_)
        refine wlo 3 4 rfl rfl rfl (wo_alloc (l := [_, _]) rfl rfl rfl zr61 rfl S19 ?_)
        intro gb4 w15 S20; clear S19
        refine wlo 4 5 rfl rfl rfl (wo_storeB (i := 0) (us := [_, _]) (l' := [_, _]) (H' := [_, _, _, _, _, _, _]) rfl rfl S20 rfl rfl rfl rfl sz61 rfl rfl rfl rfl ?_)
        intro w16 S21; clear S20
        refine wl_end rfl ?_
        refine nm_sub [(1, _), (2, _), (4, _), (5, _), (6, _), (8, _), (9, _), (10, _), (11, _), (12, _)] ⟨rfl, rfl, rfl, rfl, rfl, rfl, rfl, rfl, rfl, rfl, trivial⟩ ?_
        refine nm_thn ?_
        refine ws_seqN Walked_n64 Walked_n65 rfl rfl rfl ?_
        refine ws_blockN Walked_n66 6 rfl rfl rfl ?_
        refine ws_loopE (fun mx_ ax_ wx_ => ∃ (W : Ws), mx_ = 1 * negs W.inn ∧ Env 260 [(1, .int .i64 (n : Int)), (2, .pointer (some ⟨gb1, 0, none⟩)), (4, .pointer (some ⟨gb2, 0, none⟩)), (5, vro0), (6, vrn0), (8, .int .i64 W.n), (9, .int .i64 (c : Int)), (10, .int .i64 (q : Int)), (11, .int .i64 (m2 + 1)), (12, .pointer (some ⟨gb4, 0, none⟩))] ax_ ∧ SH wx_ M X [Rs.box gb4 61 [.int .i64 W.s.c, .int .i64 W.s.a], Rs.tab cdInt vsN W.inn, Rs.row (cdV 27) vrn0 vsN, Rs.tab cdInt vsA W.ar, Rs.row (cdV 27) vro0 vsA, Rs.box gb2 41 [.slice none 0 0, .int .i64 0], Rs.box gb1 59 [.slice taA t.a.length tac, .slice tbA t.b.length tbc]] ∧ OkW n W ∧ fullW (oth (zL t)) W = fullW (oth (zL t)) ⟨(rgs (oth (zL t)) n (2 * c + q)).ar, (rgs (oth (zL t)) n (2 * c + q)).inn, (rgs (oth (zL t)) n (2 * c + q)).n, ⟨(c : Int), (q : Int)⟩⟩ ∧ W.n + negs W.inn = (rgs (oth (zL t)) n (2 * c + q)).n + negs (rgs (oth (zL t)) n (2 * c + q)).inn ∧ 0 ≤ W.n) rfl ?_ ?_
        ·intro ax_ hax_
         refine ⟨_, ⟨⟨A2, N2, m2, ⟨(c : Int), (q : Int)⟩⟩, rfl, hax_.sub ⟨rfl, rfl, rfl, rfl, rfl, rfl, rfl, rfl, rfl, rfl, trivial⟩, S21.pick [0, 1, 2, 3, 4, 5, 6] [_, _, _, _, _, _, _] (by decide) ⟨rfl, rfl, rfl, rfl, rfl, rfl, rfl, trivial⟩, ?hq6f0, ?hq6f1, ?hq6f2, ?hq6f3⟩⟩
         case hq6f0 => (rw [e1, e2]; exact ⟨hro.ar, hro.inn, ⟨by simp, by simp; omega, by simp, by simp; omega⟩⟩)
         case hq6f1 => rw [e1, e2, e3]
         case hq6f2 => rw [e2, e3]
         case hq6f3 => (rw [e3]; exact hge)
        ·rintro m4 a4 w17 ⟨W, rfl, he4, S22, hW, hfull, hws, hWn⟩
         clear S21
         refine ws_in he4 (c := Walked_n67) rfl ?_
         clear he4 a4
         obtain ⟨hWc, hWc2, hWp, hWp2⟩ := hW.s
         have hla := hW.ar.1
         have hln := hW.inn.1
         have hlar := hW.ar.2 W.s.c.toNat (by omega)
         have hlnr := hW.inn.2 W.s.c.toNat (by omega)
         refine ws_seqN Walked_n68 Walked_n69 rfl rfl rfl ?_
         refine ws_seqN Walked_n70 Walked_n71 rfl rfl rfl ?_
         refine ws_draw rfl (by kernel_rfl) S22 11 rfl ?_
         clear S22
         refine wa_takeP (i := 0) (d := 65) 10 rfl (by kernel_rfl) (by kernel_rfl) (by kernel_rfl) rfl rfl rfl (fun w18 => run_move rfl rfl) ?_
         refine wa_takeP (i := 1) (d := 66) 9 rfl (by kernel_rfl) (by kernel_rfl) (by kernel_rfl) rfl rfl rfl (fun w19 => run_fieldAddr rfl rfl Try.underlying61 rfl (ce3) (nf3)) ?_
         refine wa_take (i := 2) (d := 67) 8 rfl (by kernel_rfl) (by kernel_rfl) (by kernel_rfl) rfl rfl rfl (fun M3 N3 w20 hle7 S25 => .inl (run_load1 rfl rfl Try.underlying3 rfl (S25.suf.boxc (i := 0) rfl rfl))) ?_
         refine wa_take (i := 3) (d := 68) 7 rfl (by kernel_rfl) (by kernel_rfl) (by kernel_rfl) rfl rfl rfl (fun M4 N4 w21 hle8 S26 => .inl (run_indexR (C := (cdV 27)) (i := 2) W.s.c.toNat rfl rfl rfl sl83 S26.suf rfl (by first | rfl | omega) (by first | omega | (simp only [lens]; omega)))) ?_
         refine wa_take (i := 4) (d := 69) 6 rfl (by kernel_rfl) (by kernel_rfl) (by kernel_rfl) rfl rfl rfl (fun M5 N5 w22 hle9 S27 => .inl (run_load1 rfl rfl Try.underlying27 rfl (S27.suf.rowc (i := 2) (e := W.s.c.toNat) (j := 0) rfl (by first | omega | (simp only [lens]; omega)) rfl rfl))) ?_
         refine wa_takeP (i := 5) (d := 70) 5 rfl (by kernel_rfl) (by kernel_rfl) (by kernel_rfl) rfl rfl rfl (fun w23 => run_fieldAddr rfl rfl Try.underlying61 rfl (ce3) (nf3)) ?_
         refine wa_take (i := 6) (d := 71) 4 rfl (by kernel_rfl) (by kernel_rfl) (by kernel_rfl) rfl rfl rfl (fun M7 N7 w24 hle11 S29 => .inl (run_load1 rfl rfl Try.underlying3 rfl (S29.suf.boxc (i := 0) rfl rfl))) ?_
         refine wa_takeP (i := 7) (d := 72) 3 rfl (by kernel_rfl) (by kernel_rfl) (by kernel_rfl) rfl rfl rfl (fun w25 => run_rem rfl rfl rfl (by first | omega | (simp only [lens]; omega))) ?_
         refine wa_take (i := 8) (d := 73) 2 rfl (by kernel_rfl) (by kernel_rfl) (by kernel_rfl) rfl rfl rfl (fun M9 N9 w26 hle13 S31 => .inl (run_indexT (C := cdInt) (vs := vsN) (xss := W.inn) (i := 1) W.s.c.toNat ((W.s.a % 2).toNat) rfl rfl rfl rfl sl27 S31.suf rfl (by first | omega | (simp only [lens]; omega) | (rw [ga_set _ _ _ _ (by first | omega | (simp only [List.length_set]; omega)), if_pos rfl]; simp only [List.length_set]; omega)) (by first | rfl | omega) (by first | omega | (simp only [lens]; omega) | (rw [ga_set _ _ _ _ (by first | omega | (simp only [List.length_set]; omega)), if_pos rfl]; simp only [List.length_set]; omega)))) ?_
         refine wa_take (i := 9) (d := 74) 1 rfl (by kernel_rfl) (by kernel_rfl) (by kernel_rfl) rfl rfl rfl (fun M10 N10 w27 hle14 S32 => .inl (run_load1 rfl rfl Try.underlying3 rfl (S32.suf.tabc (i := 1) (k := W.s.c.toNat) (e := (W.s.a % 2).toNat) (j := 0) rfl (by first | omega | (simp only [lens]; omega) | (rw [ga_set _ _ _ _ (by first | omega | (simp only [List.length_set]; omega)), if_pos rfl]; simp only [List.length_set]; omega)) (by first | omega | (simp only [lens]; omega) | (rw [ga_set _ _ _ _ (by first | omega | (simp only [List.length_set]; omega)), if_pos rfl]; simp only [List.length_set]; omega)) rfl rfl))) ?_
         refine wa_takeP (i := 10) (d := 75) 0 rfl (by kernel_rfl) (by kernel_rfl) (by kernel_rfl) rfl rfl rfl (fun w28 => run_lss rfl rfl rfl) ?_
         refine wa_end (by kernel_rfl) (fun w29 S34 => ?_)
         refine nm_sub [(1, _), (2, _), (4, _), (5, _), (6, _), (8, _), (9, _), (10, _), (11, _), (12, _), (75, _)] ⟨rfl, rfl, rfl, rfl, rfl, rfl, rfl, rfl, rfl, rfl, rfl, trivial⟩ ?_
         refine nm_thn ?_
         refine ws_condN Walked_n72 Walked_n73 rfl rfl rfl rfl (fun hb75 => ?_) (fun hb75 => ?_)
         ·replace hb75 := of_decide_eq_true hb75
          have hvis : ¬ visW W := by (unfold visW at2; omega)
          have hneg := negs_step (pi := (oth (zL t))) hW hvis
          have hrl := opp_rl hW.s
          change Rl n ⟨W.s.c, (W.s.a + 2) % 4⟩ at hrl
          refine ws_skip rfl ?_
          refine nm_sub [(1, _), (2, _), (4, _), (5, _), (6, _), (8, _), (9, _), (10, _), (11, _), (12, _)] ⟨rfl, rfl, rfl, rfl, rfl, rfl, rfl, rfl, rfl, rfl, trivial⟩ ?_
          refine nm_thn ?_
          refine ws_blockN Walked_n74 7 rfl rfl rfl ?_
          refine ws_seqN Walked_n75 Walked_n76 rfl rfl rfl ?_
          refine ws_region rfl ?_
          refine wlm 0 1 rfl rfl rfl rfl rfl rfl rfl ?_
          refine wlo 1 2 rfl rfl rfl (wo_run rfl rfl (run_add rfl rfl rfl (by first | omega | (simp only [lens]; omega))) ?_)
          refine wla 2 3 rfl rfl rfl rfl rfl rfl rfl ?_
          refine wl_end rfl ?_
          refine nm_sub [(1, _), (2, _), (4, _), (5, _), (6, _), (8, _), (9, _), (10, _), (11, _), (12, _)] ⟨rfl, rfl, rfl, rfl, rfl, rfl, rfl, rfl, rfl, rfl, trivial⟩ ?_
          refine nm_thn ?_
          refine ws_seqN Walked_n77 Walked_n78 rfl rfl rfl ?_
          refine ws_draw rfl (by kernel_rfl) S34 12 rfl ?_
          clear S34
          refine wa_takeP (i := 0) (d := 78) 11 rfl (by kernel_rfl) (by kernel_rfl) (by kernel_rfl) rfl rfl rfl (fun w30 => run_move rfl rfl) ?_
          refine wa_takeP (i := 1) (d := 79) 10 rfl (by kernel_rfl) (by kernel_rfl) (by kernel_rfl) rfl rfl rfl (fun w31 => run_fieldAddr rfl rfl Try.underlying61 rfl (ce3) (nf3)) ?_
          refine wa_take (i := 2) (d := 80) 9 rfl (by kernel_rfl) (by kernel_rfl) (by kernel_rfl) rfl rfl rfl (fun M14 N14 w32 hle18 S37 => .inl (run_load1 rfl rfl Try.underlying3 rfl (S37.suf.boxc (i := 0) rfl rfl))) ?_
          refine wa_take (i := 3) (d := 81) 8 rfl (by kernel_rfl) (by kernel_rfl) (by kernel_rfl) rfl rfl rfl (fun M15 N15 w33 hle19 S38 => .inl (run_indexR (C := (cdV 27)) (i := 2) W.s.c.toNat rfl rfl rfl sl83 S38.suf rfl (by first | rfl | omega) (by first | omega | (simp only [lens]; omega)))) ?_
          refine wa_take (i := 4) (d := 82) 7 rfl (by kernel_rfl) (by kernel_rfl) (by kernel_rfl) rfl rfl rfl (fun M16 N16 w34 hle20 S39 => .inl (run_load1 rfl rfl Try.underlying27 rfl (S39.suf.rowc (i := 2) (e := W.s.c.toNat) (j := 0) rfl (by first | omega | (simp only [lens]; omega)) rfl rfl))) ?_
          refine wa_takeP (i := 5) (d := 83) 6 rfl (by kernel_rfl) (by kernel_rfl) (by kernel_rfl) rfl rfl rfl (fun w35 => run_fieldAddr rfl rfl Try.underlying61 rfl (ce3) (nf3)) ?_
          refine wa_take (i := 6) (d := 84) 5 rfl (by kernel_rfl) (by kernel_rfl) (by kernel_rfl) rfl rfl rfl (fun M18 N18 w36 hle22 S41 => .inl (run_load1 rfl rfl Try.underlying3 rfl (S41.suf.boxc (i := 0) rfl rfl))) ?_
          refine wa_takeP (i := 7) (d := 85) 4 rfl (by kernel_rfl) (by kernel_rfl) (by kernel_rfl) rfl rfl rfl (fun w37 => run_rem rfl rfl rfl (by first | omega | (simp only [lens]; omega))) ?_
          refine wa_takeP (i := 8) (d := 86) 3 rfl (by kernel_rfl) (by kernel_rfl) (by kernel_rfl) rfl rfl rfl (fun w38 => run_fieldAddr rfl rfl Try.underlying61 rfl (ce3) (nf3)) ?_
          refine wa_take (i := 9) (d := 87) 2 rfl (by kernel_rfl) (by kernel_rfl) (by kernel_rfl) rfl rfl rfl (fun M21 N21 w39 hle25 S44 => .inl (run_load1 rfl rfl Try.underlying3 rfl (S44.suf.boxc (i := 0) rfl rfl))) ?_
          refine wa_take (i := 10) (d := 88) 1 rfl (by kernel_rfl) (by kernel_rfl) (by kernel_rfl) rfl rfl rfl (fun M22 N22 w40 hle26 S45 => .inl (run_indexT (C := cdInt) (vs := vsN) (xss := W.inn) (i := 1) W.s.c.toNat ((W.s.a % 2).toNat) rfl rfl rfl rfl sl27 S45.suf rfl (by first | omega | (simp only [lens]; omega) | (rw [ga_set _ _ _ _ (by first | omega | (simp only [List.length_set]; omega)), if_pos rfl]; simp only [List.length_set]; omega)) (by first | rfl | omega) (by first | omega | (simp only [lens]; omega) | (rw [ga_set _ _ _ _ (by first | omega | (simp only [List.length_set]; omega)), if_pos rfl]; simp only [List.length_set]; omega)))) ?_
          refine wa_only (i := 11) 0 rfl (by kernel_rfl) rfl rfl (fun w42 S47 => ?_)
          refine (wo_storeT (C := cdInt) (vs := vsN) (xss := W.inn) (i := 1) (k := W.s.c.toNat) (e := (W.s.a % 2).toNat) (j := 0) (us := [_]) (H' := [_, _, _, _, _, _, _]) W.s.a rfl rfl S47 rfl (by first | omega | (simp only [lens]; omega) | (rw [ga_set _ _ _ _ (by first | omega | (simp only [List.length_set]; omega)), if_pos rfl]; simp only [List.length_set]; omega)) (by first | omega | (simp only [lens]; omega) | (rw [ga_set _ _ _ _ (by first | omega | (simp only [List.length_set]; omega)), if_pos rfl]; simp only [List.length_set]; omega)) rfl rfl rfl sz3 rfl rfl rfl rfl ?_)
          intro w43 S48; clear S47
          refine LeftW.turn (by kernel_rfl) S48 ?_; clear S48
          change WA _ _ _ _ _ _ _ _ _ _ _ _ [_, _, _, _, _, _, _]
          refine wa_end (by kernel_rfl) (fun w44 S49 => ?_)
          refine nm_sub [(1, _), (2, _), (4, _), (5, _), (6, _), (8, _), (9, _), (10, _), (11, _), (12, _)] ⟨rfl, rfl, rfl, rfl, rfl, rfl, rfl, rfl, rfl, rfl, trivial⟩ ?_
          refine nm_thn ?_
          refine ws_seqN Walked_n79 Walked_n80 rfl rfl rfl ?_
          refine ws_draw rfl (by kernel_rfl) S49 10 rfl ?_
          clear S49
          refine wa_takeP (i := 0) (d := 89) 9 rfl (by kernel_rfl) (by kernel_rfl) (by kernel_rfl) rfl rfl rfl (fun w45 => run_move rfl rfl) ?_
          refine wa_takeP (i := 1) (d := 90) 8 rfl (by kernel_rfl) (by kernel_rfl) (by kernel_rfl) rfl rfl rfl (fun w46 => run_fieldAddr rfl rfl Try.underlying61 rfl (ce3) (nf3)) ?_
          refine wa_take (i := 2) (d := 91) 7 rfl (by kernel_rfl) (by kernel_rfl) (by kernel_rfl) rfl rfl rfl (fun M26 N26 w47 hle30 S52 => .inl (run_load1 rfl rfl Try.underlying3 rfl (S52.suf.boxc (i := 0) rfl rfl))) ?_
          refine wa_take (i := 3) (d := 92) 6 rfl (by kernel_rfl) (by kernel_rfl) (by kernel_rfl) rfl rfl rfl (fun M27 N27 w48 hle31 S53 => .inl (run_indexR (C := (cdV 27)) (i := 4) W.s.c.toNat rfl rfl rfl sl83 S53.suf rfl (by first | rfl | omega) (by first | omega | (simp only [lens]; omega)))) ?_
          refine wa_take (i := 4) (d := 93) 5 rfl (by kernel_rfl) (by kernel_rfl) (by kernel_rfl) rfl rfl rfl (fun M28 N28 w49 hle32 S54 => .inl (run_load1 rfl rfl Try.underlying27 rfl (S54.suf.rowc (i := 4) (e := W.s.c.toNat) (j := 0) rfl (by first | omega | (simp only [lens]; omega)) rfl rfl))) ?_
          refine wa_takeP (i := 5) (d := 94) 4 rfl (by kernel_rfl) (by kernel_rfl) (by kernel_rfl) rfl rfl rfl (fun w50 => run_fieldAddr rfl rfl Try.underlying61 rfl (ce3) (nf3)) ?_
          refine wa_take (i := 6) (d := 95) 3 rfl (by kernel_rfl) (by kernel_rfl) (by kernel_rfl) rfl rfl rfl (fun M30 N30 w51 hle34 S56 => .inl (run_load1 rfl rfl Try.underlying3 rfl (S56.suf.boxc (i := 0) rfl rfl))) ?_
          refine wa_takeP (i := 7) (d := 96) 2 rfl (by kernel_rfl) (by kernel_rfl) (by kernel_rfl) rfl rfl rfl (fun w52 => run_move rfl rfl) ?_
          refine wa_take (i := 8) (d := 97) 1 rfl (by kernel_rfl) (by kernel_rfl) (by kernel_rfl) rfl rfl rfl (fun M32 N32 w53 hle36 S58 => .inl (run_indexT (C := cdInt) (vs := vsA) (xss := W.ar) (i := 3) W.s.c.toNat W.s.a.toNat rfl rfl rfl rfl sl27 S58.suf rfl (by first | omega | (simp only [lens]; omega) | (rw [ga_set _ _ _ _ (by first | omega | (simp only [List.length_set]; omega)), if_pos rfl]; simp only [List.length_set]; omega)) (by first | rfl | omega) (by first | omega | (simp only [lens]; omega) | (rw [ga_set _ _ _ _ (by first | omega | (simp only [List.length_set]; omega)), if_pos rfl]; simp only [List.length_set]; omega)))) ?_
          refine wa_only (i := 9) 0 rfl (by kernel_rfl) rfl rfl (fun w55 S60 => ?_)
          refine (wo_storeT (C := cdInt) (vs := vsA) (xss := W.ar) (i := 3) (k := W.s.c.toNat) (e := W.s.a.toNat) (j := 0) (us := [_]) (H' := [_, _, _, _, _, _, _]) (W.n + 1) rfl rfl S60 rfl (by first | omega | (simp only [lens]; omega) | (rw [ga_set _ _ _ _ (by first | omega | (simp only [List.length_set]; omega)), if_pos rfl]; simp only [List.length_set]; omega)) (by first | omega | (simp only [lens]; omega) | (rw [ga_set _ _ _ _ (by first | omega | (simp only [List.length_set]; omega)), if_pos rfl]; simp only [List.length_set]; omega)) rfl rfl rfl sz3 rfl rfl rfl rfl ?_)
          intro w56 S61; clear S60
          refine LeftW.turn (by kernel_rfl) S61 ?_; clear S61
          change WA _ _ _ _ _ _ _ _ _ _ _ _ [_, _, _, _, _, _, _]
          refine wa_end (by kernel_rfl) (fun w57 S62 => ?_)
          refine nm_sub [(1, _), (2, _), (4, _), (5, _), (6, _), (8, _), (9, _), (10, _), (11, _), (12, _)] ⟨rfl, rfl, rfl, rfl, rfl, rfl, rfl, rfl, rfl, rfl, trivial⟩ ?_
          refine nm_thn ?_
          refine ws_seqN Walked_n81 Walked_n82 rfl rfl rfl ?_
          refine ws_region rfl ?_
          refine wlo 0 1 rfl rfl rfl (wo_run rfl rfl (run_fieldAddr rfl rfl Try.underlying61 rfl (ce3) (nf3)) ?_)
          refine wlo 1 2 rfl rfl rfl (wo_run rfl rfl (run_load1 rfl rfl Try.underlying3 rfl (S62.boxc (i := 0) rfl rfl)) ?_)
          refine wlo 2 3 rfl rfl rfl (wo_run rfl rfl (run_add rfl rfl rfl (by first | omega | (simp only [lens]; omega))) ?_)
          refine wlo 3 4 rfl rfl rfl (wo_run rfl rfl (run_rem rfl rfl rfl (by first | omega | (simp only [lens]; omega))) ?_)
          refine wla 4 5 rfl rfl rfl rfl rfl rfl rfl ?_
          refine wl_end rfl ?_
          refine nm_sub [(1, _), (2, _), (4, _), (5, _), (6, _), (8, _), (9, _), (10, _), (11, _), (12, _), (13, _)] ⟨rfl, rfl, rfl, rfl, rfl, rfl, rfl, rfl, rfl, rfl, rfl, trivial⟩ ?_
          refine nm_thn ?_
          refine ws_seqN Walked_n83 Walked_n84 rfl rfl rfl ?_
          refine ws_region rfl ?_
          refine wlm 0 1 rfl rfl rfl rfl rfl rfl rfl ?_
          refine wlo 1 2 rfl rfl rfl (wo_run rfl rfl (run_fieldAddr rfl rfl Try.underlying61 rfl (ce3) (nf3)) ?_)
          refine wlo 2 3 rfl rfl rfl (wo_run rfl rfl (run_load1 rfl rfl Try.underlying3 rfl (S62.boxc (i := 0) rfl rfl)) ?_)
          refine wlo 3 4 rfl rfl rfl (wo_run rfl rfl (run_indexR (C := (cdV 27)) (i := 4) W.s.c.toNat rfl rfl rfl sl83 S62 rfl (by first | rfl | omega) (by first | omega | (simp only [lens]; omega))) ?_)
          refine wlo 4 5 rfl rfl rfl (wo_run rfl rfl (run_load1 rfl rfl Try.underlying27 rfl (S62.rowc (i := 4) (e := W.s.c.toNat) (j := 0) rfl (by first | omega | (simp only [lens]; omega)) rfl rfl)) ?_)
          refine wlm 5 6 rfl rfl rfl rfl rfl rfl rfl ?_
          refine wlm 6 7 rfl rfl rfl rfl rfl rfl rfl ?_
          refine wlo 7 8 rfl rfl rfl (wo_run rfl rfl (run_add rfl rfl rfl (by first | omega | (simp only [lens]; omega))) ?_)
          refine wl_eq 109 (.int .i64 (W.n + 2)) rfl (int_eq (by omega)) ?_
          refine wlo 8 9 rfl rfl rfl (wo_run rfl rfl (run_indexT (C := cdInt) (vs := vsA) (xss := (W.ar.set W.s.c.toNat ((ga W.ar W.s.c.toNat).set W.s.a.toNat (W.n + 1)))) (i := 3) W.s.c.toNat (((W.s.a + 2) % 4).toNat) rfl rfl rfl rfl sl27 S62 rfl (by first | omega | (simp only [lens]; omega) | (rw [ga_set _ _ _ _ (by first | omega | (simp only [List.length_set]; omega)), if_pos rfl]; simp only [List.length_set]; omega)) (by first | rfl | omega) (by first | omega | (simp only [lens]; omega) | (rw [ga_set _ _ _ _ (by first | omega | (simp only [List.length_set]; omega)), if_pos rfl]; simp only [List.length_set]; omega))) ?_)
          refine wlo 9 10 rfl rfl rfl (wo_storeT (C := cdInt) (vs := vsA) (xss := (W.ar.set W.s.c.toNat ((ga W.ar W.s.c.toNat).set W.s.a.toNat (W.n + 1)))) (i := 3) (k := W.s.c.toNat) (e := ((W.s.a + 2) % 4).toNat) (j := 0) (us := [_]) (H' := [_, _, _, _, _, _, _]) (W.n + 2) rfl rfl S62 rfl (by first | omega | (simp only [lens]; omega) | (rw [ga_set _ _ _ _ (by first | omega | (simp only [List.length_set]; omega)), if_pos rfl]; simp only [List.length_set]; omega)) (by first | omega | (simp only [lens]; omega) | (rw [ga_set _ _ _ _ (by first | omega | (simp only [List.length_set]; omega)), if_pos rfl]; simp only [List.length_set]; omega)) rfl rfl rfl sz3 rfl rfl rfl rfl ?_)
          intro w58 S63; clear S62
          refine wl_end rfl ?_
          refine nm_sub [(1, _), (2, _), (4, _), (5, _), (6, _), (8, _), (9, _), (10, _), (11, _), (12, _), (13, _)] ⟨rfl, rfl, rfl, rfl, rfl, rfl, rfl, rfl, rfl, rfl, rfl, trivial⟩ ?_
          refine nm_thn ?_
          refine ws_region rfl ?_
          refine wlo 0 1 rfl rfl rfl (wo_run rfl rfl (run_loadN (us := [_, _]) rfl rfl Try.underlying59 rfl sz59 (S63.boxcs (i := 6) rfl ⟨rfl, rfl, trivial⟩)) ?_)
          refine wlo 1 2 rfl rfl rfl (wo_run rfl rfl (run_fieldAddr rfl rfl Try.underlying61 rfl (ce3) (nf3)) ?_)
          refine wlo 2 3 rfl rfl rfl (wo_run rfl rfl (run_load1 rfl rfl Try.underlying3 rfl (S63.boxc (i := 0) rfl rfl)) ?_)
          refine wlm 3 4 rfl rfl rfl rfl rfl rfl rfl ?_
          refine wlo 4 5 rfl rfl rfl (wo_run rfl rfl (run_build (l := [_, _]) rfl rfl st61 rfl rfl) ?_)
          refine wlo 5 6 rfl rfl rfl (wo_cq rfl rfl rfl rfl rfl rfl rfl cf36 S63 (Other_q t (⟨W.s.c, (W.s.a + 2) % 4⟩ : Sp) (hta.mono S63.un_XH) (htb.mono S63.un_XH) (hlen) (hth _ hrl) (hrl.1) S63.lend) ?_)
          rintro _ w59 S64 rfl; clear S63
          refine wlo 6 7 rfl rfl rfl (wo_storeB (i := 0) (us := [_, _]) (l' := [_, _]) (H' := [_, _, _, _, _, _, _]) rfl rfl S64 rfl rfl rfl rfl sz61 rfl rfl rfl rfl ?_)
          intro w60 S65; clear S64
          refine wl_end rfl ?_
          refine nm_blk ?_
          refine nm_lp ?_
          intro ax_ hax_
          refine ⟨_, ?hq7m, ⟨stepW (oth (zL t)) W, rfl, hax_.sub ⟨rfl, rfl, rfl, rfl, rfl, rfl, rfl, rfl, rfl, rfl, trivial⟩, S65.pick [0, 1, 2, 3, 4, 5, 6] [_, _, _, _, _, _, _] (by decide) ⟨rfl, rfl, rfl, rfl, rfl, rfl, rfl, trivial⟩, ?hq7f0, ?hq7f1, ?hq7f2, ?hq7f3⟩⟩
          case hq7f0 => exact hW.step hp
          case hq7f1 => (rw [← hfull]; exact (full_step hW hvis).symm)
          case hq7f2 => (show W.n + 1 + _ = _; omega)
          case hq7f3 => (show 0 ≤ W.n + 1; omega)
          case hq7m => omega
         ·replace hb75 := of_decide_eq_false hb75
          have hvis : visW W := by (unfold visW at2; omega)
          have hWe : W = fullW (oth (zL t)) ⟨(rgs (oth (zL t)) n (2 * c + q)).ar, (rgs (oth (zL t)) n (2 * c + q)).inn, (rgs (oth (zL t)) n (2 * c + q)).n, ⟨(c : Int), (q : Int)⟩⟩ := by rw [← hfull, full_vis _ hvis]
          have hring := rgs_ring (by omega) (by rw [hget]; omega) hWe
          have hrl : Rl n ⟨(c : Int), (q : Int)⟩ := ⟨by simp, by simp; omega, by simp, by simp; omega⟩
          obtain ⟨hq1, hq2, hq3, hq4⟩ := (hp _ hrl).1
          have hlq := hW.ar.2 ((oth (zL t)) ⟨(c : Int), (q : Int)⟩).c.toNat (by omega)
          rw [← e3] at hring
          refine ws_exit rfl rfl ?_
          refine nm_sub [(1, _), (2, _), (4, _), (5, _), (6, _), (8, _), (9, _), (10, _), (11, _)] ⟨rfl, rfl, rfl, rfl, rfl, rfl, rfl, rfl, rfl, trivial⟩ ?_
          refine nm_thn ?_
          refine ws_seqN Walked_n85 Walked_n86 rfl rfl rfl ?_
          refine ws_region rfl ?_
          refine wlo 0 1 rfl rfl rfl (wo_run rfl rfl (run_loadN (us := [_, _]) rfl rfl Try.underlying59 rfl sz59 (S34.boxcs (i := 6) rfl ⟨rfl, rfl, trivial⟩)) ?_)
          refine wlm 1 2 rfl rfl rfl rfl rfl rfl rfl ?_
          refine wlm 2 3 rfl rfl rfl rfl rfl rfl rfl ?_
          refine wlo 3 4 rfl rfl rfl (wo_run rfl rfl (run_build (l := [_, _]) rfl rfl st61 rfl rfl) ?_)
          refine wlo 4 5 rfl rfl rfl (wo_cq rfl rfl rfl rfl rfl rfl rfl cf36 S34 (Other_q t (⟨(c : Int), (q : Int)⟩ : Sp) (hta.mono S34.un_XH) (htb.mono S34.un_XH) (hlen) (hth _ hrl) (hrl.1) S34.lend) ?_)
          rintro _ w61 S66 rfl; clear S34
          refine wlo 5 6 rfl rfl rfl (wo_alloc (l := [_, _]) rfl rfl rfl zr61 rfl S66 ?_)
          intro gb5 w62 S67; clear S66
          refine wlo 6 7 rfl rfl rfl (wo_storeB (i := 0) (us := [_, _]) (l' := [_, _]) (H' := [_, _, _, _, _, _, _, _]) rfl rfl S67 rfl rfl rfl rfl sz61 rfl rfl rfl rfl ?_)
          intro w63 S68; clear S67
          refine wl_end rfl ?_
          refine nm_sub [(1, _), (2, _), (4, _), (5, _), (6, _), (8, _), (9, _), (10, _), (11, _), (14, _)] ⟨rfl, rfl, rfl, rfl, rfl, rfl, rfl, rfl, rfl, rfl, trivial⟩ ?_
          refine nm_thn ?_
          refine ws_draw rfl (by kernel_rfl) S68 10 rfl ?_
          clear S68
          refine wa_takeP (i := 0) (d := 122) 9 rfl (by kernel_rfl) (by kernel_rfl) (by kernel_rfl) rfl rfl rfl (fun w64 => run_move rfl rfl) ?_
          refine wa_takeP (i := 1) (d := 123) 8 rfl (by kernel_rfl) (by kernel_rfl) (by kernel_rfl) rfl rfl rfl (fun w65 => run_fieldAddr rfl rfl Try.underlying61 rfl (ce3) (nf3)) ?_
          refine wa_take (i := 2) (d := 124) 7 rfl (by kernel_rfl) (by kernel_rfl) (by kernel_rfl) rfl rfl rfl (fun M36 N36 w66 hle40 S71 => .inl (run_load1 rfl rfl Try.underlying3 rfl (S71.suf.boxc (i := 0) rfl rfl))) ?_
          refine wa_take (i := 3) (d := 125) 6 rfl (by kernel_rfl) (by kernel_rfl) (by kernel_rfl) rfl rfl rfl (fun M37 N37 w67 hle41 S72 => .inl (run_indexR (C := (cdV 27)) (i := 5) (((oth (zL t) (⟨(c : Int), (q : Int)⟩ : Sp)).c).toNat) rfl rfl rfl sl83 S72.suf rfl (by first | rfl | omega) (by first | omega | (simp only [lens]; omega)))) ?_
          refine wa_take (i := 4) (d := 126) 5 rfl (by kernel_rfl) (by kernel_rfl) (by kernel_rfl) rfl rfl rfl (fun M38 N38 w68 hle42 S73 => .inl (run_load1 rfl rfl Try.underlying27 rfl (S73.suf.rowc (i := 5) (e := ((oth (zL t) (⟨(c : Int), (q : Int)⟩ : Sp)).c).toNat) (j := 0) rfl (by first | omega | (simp only [lens]; omega)) rfl rfl))) ?_
          refine wa_takeP (i := 5) (d := 127) 4 rfl (by kernel_rfl) (by kernel_rfl) (by kernel_rfl) rfl rfl rfl (fun w69 => run_fieldAddr rfl rfl Try.underlying61 rfl (ce3) (nf3)) ?_
          refine wa_take (i := 6) (d := 128) 3 rfl (by kernel_rfl) (by kernel_rfl) (by kernel_rfl) rfl rfl rfl (fun M40 N40 w70 hle44 S75 => .inl (run_load1 rfl rfl Try.underlying3 rfl (S75.suf.boxc (i := 0) rfl rfl))) ?_
          refine wa_takeP (i := 7) (d := 129) 2 rfl (by kernel_rfl) (by kernel_rfl) (by kernel_rfl) rfl rfl rfl (fun w71 => run_move rfl rfl) ?_
          refine wa_take (i := 8) (d := 130) 1 rfl (by kernel_rfl) (by kernel_rfl) (by kernel_rfl) rfl rfl rfl (fun M42 N42 w72 hle46 S77 => .inl (run_indexT (C := cdInt) (vs := vsA) (xss := W.ar) (i := 4) (((oth (zL t) (⟨(c : Int), (q : Int)⟩ : Sp)).c).toNat) (((oth (zL t) (⟨(c : Int), (q : Int)⟩ : Sp)).a).toNat) rfl rfl rfl rfl sl27 S77.suf rfl (by first | omega | (simp only [lens]; omega) | (rw [ga_set _ _ _ _ (by first | omega | (simp only [List.length_set]; omega)), if_pos rfl]; simp only [List.length_set]; omega)) (by first | rfl | omega) (by first | omega | (simp only [lens]; omega) | (rw [ga_set _ _ _ _ (by first | omega | (simp only [List.length_set]; omega)), if_pos rfl]; simp only [List.length_set]; omega)))) ?_
          refine wa_only (i := 9) 0 rfl (by kernel_rfl) rfl rfl (fun w74 S79 => ?_)
          refine (wo_storeT (C := cdInt) (vs := vsA) (xss := W.ar) (i := 4) (k := (((oth (zL t) (⟨(c : Int), (q : Int)⟩ : Sp)).c).toNat)) (e := ((oth (zL t) (⟨(c : Int), (q : Int)⟩ : Sp)).a).toNat) (j := 0) (us := [_]) (H' := [_, _, _, _, _, _, _, _]) (m2 + 1) rfl rfl S79 rfl (by first | omega | (simp only [lens]; omega) | (rw [ga_set _ _ _ _ (by first | omega | (simp only [List.length_set]; omega)), if_pos rfl]; simp only [List.length_set]; omega)) (by first | omega | (simp only [lens]; omega) | (rw [ga_set _ _ _ _ (by first | omega | (simp only [List.length_set]; omega)), if_pos rfl]; simp only [List.length_set]; omega)) rfl rfl rfl sz3 rfl rfl rfl rfl ?_)
          intro w75 S80; clear S79
          refine LeftW.turn (by kernel_rfl) S80 ?_; clear S80
          change WA _ _ _ _ _ _ _ _ _ _ _ _ [_, _, _, _, _, _, _, _]
          refine wa_end (by kernel_rfl) (fun w76 S81 => ?_)
          refine nm_blk ?_
          refine nm_sub [(1, _), (2, _), (4, _), (5, _), (6, _), (8, _), (9, _), (10, _)] ⟨rfl, rfl, rfl, rfl, rfl, rfl, rfl, rfl, trivial⟩ ?_
          refine nm_thn ?_
          refine ws_region rfl ?_
          refine wlm 0 1 rfl rfl rfl rfl rfl rfl rfl ?_
          refine wlo 1 2 rfl rfl rfl (wo_run rfl rfl (run_add rfl rfl rfl (by first | omega | (simp only [lens]; omega))) ?_)
          refine wla 2 3 rfl rfl rfl rfl rfl rfl rfl ?_
          refine wl_end rfl ?_
          refine nm_lp ?_
          intro ax_ hax_
          refine ⟨_, ?hq8m, ⟨q + 1, _, _, _, rfl, hax_.sub ⟨rfl, rfl, rfl, rfl, rfl, rfl, rfl, rfl, trivial⟩, S81.pick [2, 3, 4, 5, 6, 7] [_, _, _, _, _, _] (by decide) ⟨rfl, rfl, rfl, rfl, rfl, rfl, trivial⟩, ?hq8f0, ?hq8f1⟩⟩
          case hq8f0 => omega
          case hq8f1 => first | (rw [← rgs_stay (oth (zL t)) (by omega) (by rw [hget]; omega)]; exact ⟨e1, e2, e3⟩) | (rw [hring]; exact ⟨rfl, rfl, rfl⟩)
          case hq8m => omega
      ·replace hb49 := of_decide_eq_false hb49
       refine ws_exit rfl rfl ?_
       refine nm_blk ?_
       refine nm_sub [(1, _), (2, _), (4, _), (5, _), (6, _), (8, _), (9, _)] ⟨rfl, rfl, rfl, rfl, rfl, rfl, rfl, trivial⟩ ?_
       refine nm_thn ?_
       refine ws_region rfl ?_
       refine wlm 0 1 rfl rfl rfl rfl rfl rfl rfl ?_
       refine wlo 1 2 rfl rfl rfl (wo_run rfl rfl (run_add rfl rfl rfl (by first | omega | (simp only [lens]; omega))) ?_)
       refine wla 2 3 rfl rfl rfl rfl rfl rfl rfl ?_
       refine wl_end rfl ?_
       refine nm_lp ?_
       intro ax_ hax_
       refine ⟨_, ?hq9m, ⟨c + 1, _, _, _, rfl, hax_.sub ⟨rfl, rfl, rfl, rfl, rfl, rfl, rfl, trivial⟩, S19.pick [0, 1, 2, 3, 4, 5] [_, _, _, _, _, _] (by decide) ⟨rfl, rfl, rfl, rfl, rfl, rfl, trivial⟩, ?hq9f0, ?hq9f1⟩⟩
       case hq9f0 => omega
       case hq9f1 => (rw [show 2 * (c + 1) = 2 * c + q by omega]; exact ⟨e1, e2, e3⟩)
       case hq9m => omega
    ·replace hb45 := of_decide_eq_false hb45
     refine ws_exit rfl rfl ?_
     refine nm_sub [(1, _), (2, _), (4, _), (5, _), (6, _)] ⟨rfl, rfl, rfl, rfl, rfl, trivial⟩ ?_
     refine nm_thn ?_
     refine ws_seqN Walked_n87 Walked_n88 rfl rfl rfl ?_
     have hcn : c = n := by omega
     rw [hcn] at hr1
     obtain ⟨hA2, hN2, -⟩ := hr1
     clear hcn hc
     have hro := (rgs_ok hp (2 * n) (Nat.le_refl _)).1
     have hAl : A1.length = n := by rw [hA2, hro.ar.1]
     have hNl : N1.length = n := by rw [hN2, hro.inn.1]
     refine ws_region rfl ?_
     refine wlo 0 1 rfl rfl rfl (wo_run rfl rfl (run_build (l := [_, _]) rfl rfl st41 rfl rfl) ?_)
     refine wlo 1 2 rfl rfl rfl (wo_alloc (l := [_, _]) rfl rfl rfl zr41 rfl S18 ?_)
     intro gb6 w77 S82; clear S18
     refine wlo 2 3 rfl rfl rfl (wo_storeB (i := 0) (us := [_, _]) (l' := [_, _]) (H' := [_, _, _, _, _, _, _]) rfl rfl S82 rfl rfl rfl rfl sz41 rfl rfl rfl rfl ?_)
     intro w78 S83; clear S82
     refine wl_end rfl ?_
     refine nm_sub [(1, _), (2, _), (4, _), (5, _), (6, _), (15, _)] ⟨rfl, rfl, rfl, rfl, rfl, rfl, trivial⟩ ?_
     refine nm_thn ?_
     refine ws_seqN Walked_n89 Walked_n90 rfl rfl rfl ?_
     refine ws_seqN Walked_n91 Walked_n92 rfl rfl rfl ?_
     refine ws_region rfl ?_
     refine wla 0 1 rfl rfl rfl rfl rfl rfl rfl ?_
     refine wl_end rfl ?_
     refine nm_thn ?_
     refine ws_blockN Walked_n93 8 rfl rfl rfl ?_
     have S84 := S83.nilrow cdCr; clear S83
     refine ws_loopE (fun mx_ ax_ wx_ => ∃ (c : Nat) (vrc : Value), mx_ = n - 1 * c ∧ Env 260 [(1, .int .i64 (n : Int)), (2, .pointer (some ⟨gb1, 0, none⟩)), (4, .pointer (some ⟨gb2, 0, none⟩)), (5, vro0), (6, vrn0), (15, .pointer (some ⟨gb6, 0, none⟩)), (16, .int .i64 (c : Int))] ax_ ∧ SH wx_ M X [Rs.row cdCr vrc (crsW (oth (zL t)) n c), Rs.box gb6 41 [vrc, .int .i64 0], Rs.tab cdInt vsN N1, Rs.row (cdV 27) vrn0 vsN, Rs.tab cdInt vsA A1, Rs.row (cdV 27) vro0 vsA, Rs.box gb2 41 [.slice none 0 0, .int .i64 0], Rs.box gb1 59 [.slice taA t.a.length tac, .slice tbA t.b.length tbc]] ∧ c ≤ n) rfl ?_ ?_
     ·intro ax_ hax_
      refine ⟨_, ⟨0, _, rfl, hax_.sub ⟨rfl, rfl, rfl, rfl, rfl, rfl, rfl, trivial⟩, S84.pick [0, 1, 2, 3, 4, 5, 6, 7] [_, _, _, _, _, _, _, _] (by decide) ⟨rfl, rfl, rfl, rfl, rfl, rfl, rfl, rfl, trivial⟩, ?hq10f0⟩⟩
      case hq10f0 => exact Nat.zero_le _
     ·rintro m5 a5 w79 ⟨c, vrc, rfl, he5, S85, hc⟩
      clear S84
      refine ws_in he5 (c := Walked_n94) rfl ?_
      clear he5 a5
      have hin := fun h => rgs_in hp (c := c) h
      have hlen9 : (crsW (oth (zL t)) n c).length = c := by unfold crsW; simp
      refine ws_seqN Walked_n95 Walked_n96 rfl rfl rfl ?_
      refine ws_seqN Walked_n97 Walked_n98 rfl rfl rfl ?_
      refine ws_region rfl ?_
      refine wlm 0 1 rfl rfl rfl rfl rfl rfl rfl ?_
      refine wlm 1 2 rfl rfl rfl rfl rfl rfl rfl ?_
      refine wlo 2 3 rfl rfl rfl (wo_run rfl rfl (run_lss rfl rfl rfl) ?_)
      refine wl_end rfl ?_
      refine nm_sub [(1, _), (2, _), (4, _), (5, _), (6, _), (15, _), (16, _), (134, _)] ⟨rfl, rfl, rfl, rfl, rfl, rfl, rfl, rfl, trivial⟩ ?_
      refine nm_thn ?_
      refine ws_condN Walked_n99 Walked_n100 rfl rfl rfl rfl (fun hb134 => ?_) (fun hb134 => ?_)
      ·replace hb134 := of_decide_eq_true hb134
       refine ws_skip rfl ?_
       refine nm_sub [(1, _), (2, _), (4, _), (5, _), (6, _), (15, _), (16, _)] ⟨rfl, rfl, rfl, rfl, rfl, rfl, rfl, trivial⟩ ?_
       refine nm_thn ?_
       refine ws_seqN Walked_n101 Walked_n102 rfl rfl rfl ?_
       refine ws_blockN Walked_n103 9 rfl rfl rfl ?_
       refine ws_seqN Walked_n104 Walked_n105 rfl rfl rfl ?_
       obtain ⟨hi0, hi1⟩ := hin (by omega)
       have hAr : (ga A1 c).length = 4 := by rw [hA2]; exact hro.ar.2 c (by omega)
       have hNr : (ga N1 c).length = 2 := by rw [hN2]; exact hro.inn.2 c (by omega)
       have hg0 : at2 (rgs (oth (zL t)) n (2 * n)).inn (c : Int) 0 = ga (ga N1 c) 0 := by rw [hN2]; unfold at2; rw [Int.toNat_natCast]; rfl
       have hg1 : at2 (rgs (oth (zL t)) n (2 * n)).inn (c : Int) 1 = ga (ga N1 c) 1 := by rw [hN2]; unfold at2; rw [Int.toNat_natCast]; rfl
       have hgA : ga (rgs (oth (zL t)) n (2 * n)).ar c = ga A1 c := by rw [hA2]
       obtain ⟨kI, hkE⟩ : ∃ kI : Nat, kI = (at2 (rgs (oth (zL t)) n (2 * n)).inn (c : Int) 0).toNat := ⟨_, rfl⟩
       have hkI : kI < 4 := by omega
       have hk0 : ga (ga N1 c) 0 = (kI : Int) := by omega
       refine ws_region rfl ?_
       refine wlm 0 1 rfl rfl rfl rfl rfl rfl rfl ?_
       refine wlm 1 2 rfl rfl rfl rfl rfl rfl rfl ?_
       refine wlo 2 3 rfl rfl rfl (wo_run rfl rfl (run_indexR (C := (cdV 27)) (i := 3) c rfl rfl rfl sl83 S85 rfl (by first | rfl | omega) (by first | omega | (simp only [lens]; omega))) ?_)
       refine wlo 3 4 rfl rfl rfl (wo_run rfl rfl (run_load1 rfl rfl Try.underlying27 rfl (S85.rowc (i := 3) (e := c) (j := 0) rfl (by first | omega | (simp only [lens]; omega)) rfl rfl)) ?_)
       refine wlo 4 5 rfl rfl rfl (wo_run rfl rfl (run_indexT (C := cdInt) (vs := vsN) (xss := N1) (i := 2) c 0 rfl rfl rfl rfl sl27 S85 rfl (by first | omega | (simp only [lens]; omega) | (rw [ga_set _ _ _ _ (by first | omega | (simp only [List.length_set]; omega)), if_pos rfl]; simp only [List.length_set]; omega)) (by first | rfl | omega) (by first | omega | (simp only [lens]; omega) | (rw [ga_set _ _ _ _ (by first | omega | (simp only [List.length_set]; omega)), if_pos rfl]; simp only [List.length_set]; omega))) ?_)
       refine wlo 5 6 rfl rfl rfl (wo_run rfl rfl (run_load1 rfl rfl Try.underlying3 rfl (S85.tabc (i := 2) (k := c) (e := 0) (j := 0) rfl (by first | omega | (simp only [lens]; omega) | (rw [ga_set _ _ _ _ (by first | omega | (simp only [List.length_set]; omega)), if_pos rfl]; simp only [List.length_set]; omega)) (by first | omega | (simp only [lens]; omega) | (rw [ga_set _ _ _ _ (by first | omega | (simp only [List.length_set]; omega)), if_pos rfl]; simp only [List.length_set]; omega)) rfl rfl)) ?_)
       refine wl_eq 142 (.int .i64 (kI : Int)) rfl (int_eq hk0) ?_
       refine wla 6 7 rfl rfl rfl rfl rfl rfl rfl ?_
       refine wl_end rfl ?_
       refine nm_sub [(1, _), (2, _), (4, _), (5, _), (6, _), (15, _), (16, _), (17, _)] ⟨rfl, rfl, rfl, rfl, rfl, rfl, rfl, rfl, trivial⟩ ?_
       refine nm_thn ?_
       refine ws_seqN Walked_n106 Walked_n107 rfl rfl rfl ?_
       refine ws_region rfl ?_
       refine wlm 0 1 rfl rfl rfl rfl rfl rfl rfl ?_
       refine wlm 1 2 rfl rfl rfl rfl rfl rfl rfl ?_
       refine wlo 2 3 rfl rfl rfl (wo_run rfl rfl (run_indexR (C := (cdV 27)) (i := 5) c rfl rfl rfl sl83 S85 rfl (by first | rfl | omega) (by first | omega | (simp only [lens]; omega))) ?_)
       refine wlo 3 4 rfl rfl rfl (wo_run rfl rfl (run_load1 rfl rfl Try.underlying27 rfl (S85.rowc (i := 5) (e := c) (j := 0) rfl (by first | omega | (simp only [lens]; omega)) rfl rfl)) ?_)
       refine wla 4 5 rfl rfl rfl rfl rfl rfl rfl ?_
       refine wl_end rfl ?_
       refine nm_sub [(1, _), (2, _), (4, _), (5, _), (6, _), (15, _), (16, _), (17, _), (18, _)] ⟨rfl, rfl, rfl, rfl, rfl, rfl, rfl, rfl, rfl, trivial⟩ ?_
       refine nm_thn ?_
       refine ws_draw rfl (by kernel_rfl) S85 39 rfl ?_
       clear S85
       refine wa_takeP (i := 0) (d := 147) 38 rfl (by kernel_rfl) (by kernel_rfl) (by kernel_rfl) rfl rfl rfl (fun w80 => run_fieldAddr rfl rfl Try.underlying41 rfl (ce39) (nf39)) ?_
       refine wa_take (i := 1) (d := 148) 37 rfl (by kernel_rfl) (by kernel_rfl) (by kernel_rfl) rfl rfl rfl (fun M45 N45 w81 hle50 S87 => .inl (run_load1 rfl rfl Try.underlying39 rfl (S87.suf.boxc (i := 1) rfl rfl))) ?_
       refine wa_takeP (i := 2) (d := 149) 36 rfl (by kernel_rfl) (by kernel_rfl) (by kernel_rfl) rfl rfl rfl (fun w82 => run_move rfl rfl) ?_
       refine wa_takeP (i := 3) (d := 150) 35 rfl (by kernel_rfl) (by kernel_rfl) (by kernel_rfl) rfl rfl rfl (fun w83 => run_move rfl rfl) ?_
       refine wa_take (i := 4) (d := 151) 34 rfl (by kernel_rfl) (by kernel_rfl) (by kernel_rfl) rfl rfl rfl (fun M48 N48 w84 hle53 S90 => .inl (run_indexT (C := cdInt) (vs := vsA) (xss := A1) (i := 4) c kI rfl rfl rfl rfl sl27 S90.suf rfl (by first | omega | (simp only [lens]; omega) | (rw [ga_set _ _ _ _ (by first | omega | (simp only [List.length_set]; omega)), if_pos rfl]; simp only [List.length_set]; omega)) (by first | rfl | omega) (by first | omega | (simp only [lens]; omega) | (rw [ga_set _ _ _ _ (by first | omega | (simp only [List.length_set]; omega)), if_pos rfl]; simp only [List.length_set]; omega)))) ?_
       refine wa_take (i := 5) (d := 152) 33 rfl (by kernel_rfl) (by kernel_rfl) (by kernel_rfl) rfl rfl rfl (fun M49 N49 w85 hle54 S91 => .inl (run_load1 rfl rfl Try.underlying3 rfl (S91.suf.tabc (i := 4) (k := c) (e := kI) (j := 0) rfl (by first | omega | (simp only [lens]; omega) | (rw [ga_set _ _ _ _ (by first | omega | (simp only [List.length_set]; omega)), if_pos rfl]; simp only [List.length_set]; omega)) (by first | omega | (simp only [lens]; omega) | (rw [ga_set _ _ _ _ (by first | omega | (simp only [List.length_set]; omega)), if_pos rfl]; simp only [List.length_set]; omega)) rfl rfl))) ?_
       refine wa_takeP (i := 6) (d := 153) 32 rfl (by kernel_rfl) (by kernel_rfl) (by kernel_rfl) rfl rfl rfl (fun w86 => run_move rfl rfl) ?_
       refine wa_takeP (i := 7) (d := 154) 31 rfl (by kernel_rfl) (by kernel_rfl) (by kernel_rfl) rfl rfl rfl (fun w87 => run_move rfl rfl) ?_
       refine wa_takeP (i := 8) (d := 155) 30 rfl (by kernel_rfl) (by kernel_rfl) (by kernel_rfl) rfl rfl rfl (fun w88 => run_add rfl rfl rfl (by first | omega | (simp only [lens]; omega))) ?_
       refine wa_takeP (i := 9) (d := 156) 29 rfl (by kernel_rfl) (by kernel_rfl) (by kernel_rfl) rfl rfl rfl (fun w89 => run_rem rfl rfl rfl (by first | omega | (simp only [lens]; omega))) ?_
       refine wa_take (i := 10) (d := 157) 28 rfl (by kernel_rfl) (by kernel_rfl) (by kernel_rfl) rfl rfl rfl (fun M54 N54 w90 hle59 S96 => .inl (run_indexT (C := cdInt) (vs := vsA) (xss := A1) (i := 4) c ((((kI : Int) + 1) % 4).toNat) rfl rfl rfl rfl sl27 S96.suf rfl (by first | omega | (simp only [lens]; omega) | (rw [ga_set _ _ _ _ (by first | omega | (simp only [List.length_set]; omega)), if_pos rfl]; simp only [List.length_set]; omega)) (by first | rfl | omega) (by first | omega | (simp only [lens]; omega) | (rw [ga_set _ _ _ _ (by first | omega | (simp only [List.length_set]; omega)), if_pos rfl]; simp only [List.length_set]; omega)))) ?_
       refine wa_take (i := 11) (d := 158) 27 rfl (by kernel_rfl) (by kernel_rfl) (by kernel_rfl) rfl rfl rfl (fun M55 N55 w91 hle60 S97 => .inl (run_load1 rfl rfl Try.underlying3 rfl (S97.suf.tabc (i := 4) (k := c) (e := (((kI : Int) + 1) % 4).toNat) (j := 0) rfl (by first | omega | (simp only [lens]; omega) | (rw [ga_set _ _ _ _ (by first | omega | (simp only [List.length_set]; omega)), if_pos rfl]; simp only [List.length_set]; omega)) (by first | omega | (simp only [lens]; omega) | (rw [ga_set _ _ _ _ (by first | omega | (simp only [List.length_set]; omega)), if_pos rfl]; simp only [List.length_set]; omega)) rfl rfl))) ?_
       refine wa_takeP (i := 12) (d := 159) 26 rfl (by kernel_rfl) (by kernel_rfl) (by kernel_rfl) rfl rfl rfl (fun w92 => run_move rfl rfl) ?_
       refine wa_takeP (i := 13) (d := 160) 25 rfl (by kernel_rfl) (by kernel_rfl) (by kernel_rfl) rfl rfl rfl (fun w93 => run_move rfl rfl) ?_
       refine wa_takeP (i := 14) (d := 161) 24 rfl (by kernel_rfl) (by kernel_rfl) (by kernel_rfl) rfl rfl rfl (fun w94 => run_add rfl rfl rfl (by first | omega | (simp only [lens]; omega))) ?_
       refine wa_takeP (i := 15) (d := 162) 23 rfl (by kernel_rfl) (by kernel_rfl) (by kernel_rfl) rfl rfl rfl (fun w95 => run_rem rfl rfl rfl (by first | omega | (simp only [lens]; omega))) ?_
       refine wa_take (i := 16) (d := 163) 22 rfl (by kernel_rfl) (by kernel_rfl) (by kernel_rfl) rfl rfl rfl (fun M60 N60 w96 hle65 S102 => .inl (run_indexT (C := cdInt) (vs := vsA) (xss := A1) (i := 4) c ((((kI : Int) + 2) % 4).toNat) rfl rfl rfl rfl sl27 S102.suf rfl (by first | omega | (simp only [lens]; omega) | (rw [ga_set _ _ _ _ (by first | omega | (simp only [List.length_set]; omega)), if_pos rfl]; simp only [List.length_set]; omega)) (by first | rfl | omega) (by first | omega | (simp only [lens]; omega) | (rw [ga_set _ _ _ _ (by first | omega | (simp only [List.length_set]; omega)), if_pos rfl]; simp only [List.length_set]; omega)))) ?_
       refine wa_take (i := 17) (d := 164) 21 rfl (by kernel_rfl) (by kernel_rfl) (by kernel_rfl) rfl rfl rfl (fun M61 N61 w97 hle66 S103 => .inl (run_load1 rfl rfl Try.underlying3 rfl (S103.suf.tabc (i := 4) (k := c) (e := (((kI : Int) + 2) % 4).toNat) (j := 0) rfl (by first | omega | (simp only [lens]; omega) | (rw [ga_set _ _ _ _ (by first | omega | (simp only [List.length_set]; omega)), if_pos rfl]; simp only [List.length_set]; omega)) (by first | omega | (simp only [lens]; omega) | (rw [ga_set _ _ _ _ (by first | omega | (simp only [List.length_set]; omega)), if_pos rfl]; simp only [List.length_set]; omega)) rfl rfl))) ?_
       refine wa_takeP (i := 18) (d := 165) 20 rfl (by kernel_rfl) (by kernel_rfl) (by kernel_rfl) rfl rfl rfl (fun w98 => run_move rfl rfl) ?_
       refine wa_takeP (i := 19) (d := 166) 19 rfl (by kernel_rfl) (by kernel_rfl) (by kernel_rfl) rfl rfl rfl (fun w99 => run_move rfl rfl) ?_
       refine wa_takeP (i := 20) (d := 167) 18 rfl (by kernel_rfl) (by kernel_rfl) (by kernel_rfl) rfl rfl rfl (fun w100 => run_add rfl rfl rfl (by first | omega | (simp only [lens]; omega))) ?_
       refine wa_takeP (i := 21) (d := 168) 17 rfl (by kernel_rfl) (by kernel_rfl) (by kernel_rfl) rfl rfl rfl (fun w101 => run_rem rfl rfl rfl (by first | omega | (simp only [lens]; omega))) ?_
       refine wa_take (i := 22) (d := 169) 16 rfl (by kernel_rfl) (by kernel_rfl) (by kernel_rfl) rfl rfl rfl (fun M66 N66 w102 hle71 S108 => .inl (run_indexT (C := cdInt) (vs := vsA) (xss := A1) (i := 4) c ((((kI : Int) + 3) % 4).toNat) rfl rfl rfl rfl sl27 S108.suf rfl (by first | omega | (simp only [lens]; omega) | (rw [ga_set _ _ _ _ (by first | omega | (simp only [List.length_set]; omega)), if_pos rfl]; simp only [List.length_set]; omega)) (by first | rfl | omega) (by first | omega | (simp only [lens]; omega) | (rw [ga_set _ _ _ _ (by first | omega | (simp only [List.length_set]; omega)), if_pos rfl]; simp only [List.length_set]; omega)))) ?_
       refine wa_take (i := 23) (d := 170) 15 rfl (by kernel_rfl) (by kernel_rfl) (by kernel_rfl) rfl rfl rfl (fun M67 N67 w103 hle72 S109 => .inl (run_load1 rfl rfl Try.underlying3 rfl (S109.suf.tabc (i := 4) (k := c) (e := (((kI : Int) + 3) % 4).toNat) (j := 0) rfl (by first | omega | (simp only [lens]; omega) | (rw [ga_set _ _ _ _ (by first | omega | (simp only [List.length_set]; omega)), if_pos rfl]; simp only [List.length_set]; omega)) (by first | omega | (simp only [lens]; omega) | (rw [ga_set _ _ _ _ (by first | omega | (simp only [List.length_set]; omega)), if_pos rfl]; simp only [List.length_set]; omega)) rfl rfl))) ?_
       refine wa_takeP (i := 24) (d := 171) 14 rfl (by kernel_rfl) (by kernel_rfl) (by kernel_rfl) rfl rfl rfl (fun w104 => run_move rfl rfl) ?_
       refine wa_takeP (i := 25) (d := 172) 13 rfl (by kernel_rfl) (by kernel_rfl) (by kernel_rfl) rfl rfl rfl (fun w105 => run_move rfl rfl) ?_
       refine wa_take (i := 26) (d := 173) 12 rfl (by kernel_rfl) (by kernel_rfl) (by kernel_rfl) rfl rfl rfl (fun M70 N70 w106 hle75 S112 => .inl (run_indexR (C := (cdV 27)) (i := 3) c rfl rfl rfl sl83 S112.suf rfl (by first | rfl | omega) (by first | omega | (simp only [lens]; omega)))) ?_
       refine wa_take (i := 27) (d := 174) 11 rfl (by kernel_rfl) (by kernel_rfl) (by kernel_rfl) rfl rfl rfl (fun M71 N71 w107 hle76 S113 => .inl (run_load1 rfl rfl Try.underlying27 rfl (S113.suf.rowc (i := 3) (e := c) (j := 0) rfl (by first | omega | (simp only [lens]; omega)) rfl rfl))) ?_
       refine wa_take (i := 28) (d := 175) 10 rfl (by kernel_rfl) (by kernel_rfl) (by kernel_rfl) rfl rfl rfl (fun M72 N72 w108 hle77 S114 => .inl (run_indexT (C := cdInt) (vs := vsN) (xss := N1) (i := 2) c 1 rfl rfl rfl rfl sl27 S114.suf rfl (by first | omega | (simp only [lens]; omega) | (rw [ga_set _ _ _ _ (by first | omega | (simp only [List.length_set]; omega)), if_pos rfl]; simp only [List.length_set]; omega)) (by first | rfl | omega) (by first | omega | (simp only [lens]; omega) | (rw [ga_set _ _ _ _ (by first | omega | (simp only [List.length_set]; omega)), if_pos rfl]; simp only [List.length_set]; omega)))) ?_
       refine wa_take (i := 29) (d := 176) 9 rfl (by kernel_rfl) (by kernel_rfl) (by kernel_rfl) rfl rfl rfl (fun M73 N73 w109 hle78 S115 => .inl (run_load1 rfl rfl Try.underlying3 rfl (S115.suf.tabc (i := 2) (k := c) (e := 1) (j := 0) rfl (by first | omega | (simp only [lens]; omega) | (rw [ga_set _ _ _ _ (by first | omega | (simp only [List.length_set]; omega)), if_pos rfl]; simp only [List.length_set]; omega)) (by first | omega | (simp only [lens]; omega) | (rw [ga_set _ _ _ _ (by first | omega | (simp only [List.length_set]; omega)), if_pos rfl]; simp only [List.length_set]; omega)) rfl rfl))) ?_
       refine wa_takeP (i := 30) (d := 177) 8 rfl (by kernel_rfl) (by kernel_rfl) (by kernel_rfl) rfl rfl rfl (fun w110 => run_move rfl rfl) ?_
       refine wa_takeP (i := 31) (d := 178) 7 rfl (by kernel_rfl) (by kernel_rfl) (by kernel_rfl) rfl rfl rfl (fun w111 => run_add rfl rfl rfl (by first | omega | (simp only [lens]; omega))) ?_
       refine wa_takeP (i := 32) (d := 179) 6 rfl (by kernel_rfl) (by kernel_rfl) (by kernel_rfl) rfl rfl rfl (fun w112 => run_rem rfl rfl rfl (by first | omega | (simp only [lens]; omega))) ?_
       refine wa_takeP (i := 33) (d := 180) 5 rfl (by kernel_rfl) (by kernel_rfl) (by kernel_rfl) rfl rfl rfl (fun w113 => run_eql rfl rfl rfl) ?_
       refine wa_take (i := 34) (d := 181) 4 rfl (by kernel_rfl) (by kernel_rfl) (by kernel_rfl) rfl rfl rfl (fun M78 N78 w114 hle83 S120 => .inl (run_build (l := [_, _, _, _, _]) rfl rfl st56 rfl rfl)) ?_
       refine wa_only (i := 35) 3 rfl (by kernel_rfl) rfl rfl (fun w116 S122 => ?_)
       refine (wo_buildSlice1 (C := cdCr) (l := [_, _, _, _, _]) rfl rfl rfl rfl sl39 rfl rfl rfl rfl S122 ?_)
       intro gb7 w117 S123; clear S122
       refine LeftW.grow [_] (Hp.le_refl _) S123 ?_; clear S123
       change WA _ _ _ _ _ _ _ _ _ _ _ _ [_, _, _, _, _, _, _, _, _]
       refine wa_only (i := 36) 2 rfl (by kernel_rfl) rfl rfl (fun w119 S125 => ?_)
       refine (wo_append1 (C := cdCr) (i := 1) (q := 0) (⟨ga (ga A1 c) kI, ga (ga A1 c) ((((kI : Int) + 1) % 4).toNat), ga (ga A1 c) ((((kI : Int) + 2) % 4).toNat), ga (ga A1 c) ((((kI : Int) + 3) % 4).toNat), decide ((ga (ga N1 c) 1) = (((kI : Int) + 3) % 4))⟩ : Cr) rfl rfl rfl rfl rfl rfl rfl rfl sl39 S125 rfl rfl rfl (by show (_ + 1) * 40 ≤ _; first | omega | (simp only [lens]; omega)) ?_)
       intro vrc1 w120 S126; clear S125
       have S127 := S126.pick [1, 2, 3, 4, 5, 6, 7, 8] [_, _, _, _, _, _, _, _] (by decide) ⟨rfl, rfl, rfl, rfl, rfl, rfl, rfl, rfl, trivial⟩; clear S126
       refine LeftW.turn (by kernel_rfl) S127 ?_; clear S127
       change WA _ _ _ _ _ _ _ _ _ _ _ _ [_, _, _, _, _, _, _, _]
       refine wa_takeP (i := 37) (d := 184) 1 rfl (by kernel_rfl) (by kernel_rfl) (by kernel_rfl) rfl rfl rfl (fun w121 => run_fieldAddr rfl rfl Try.underlying41 rfl (ce39) (nf39)) ?_
       refine wa_only (i := 38) 0 rfl (by kernel_rfl) rfl rfl (fun w123 S130 => ?_)
       refine (wo_storeB (i := 1) (us := [_]) (l' := [_, _]) (H' := [_, _, _, _, _, _, _, _]) rfl rfl S130 rfl rfl rfl (S130.cells1 (i := 0) rfl) sz39 rfl (ones_cons (S130.one (i := 0) rfl) rfl) rfl rfl ?_)
       intro w124 S131; clear S130
       refine LeftW.turn (by kernel_rfl) S131 ?_; clear S131
       change WA _ _ _ _ _ _ _ _ _ _ _ _ [_, _, _, _, _, _, _, _]
       refine wa_end (by kernel_rfl) (fun w125 S132 => ?_)
       refine nm_blk ?_
       refine nm_sub [(1, _), (2, _), (4, _), (5, _), (6, _), (15, _), (16, _)] ⟨rfl, rfl, rfl, rfl, rfl, rfl, rfl, trivial⟩ ?_
       refine nm_thn ?_
       refine ws_region rfl ?_
       refine wlm 0 1 rfl rfl rfl rfl rfl rfl rfl ?_
       refine wlo 1 2 rfl rfl rfl (wo_run rfl rfl (run_add rfl rfl rfl (by first | omega | (simp only [lens]; omega))) ?_)
       refine wla 2 3 rfl rfl rfl rfl rfl rfl rfl ?_
       refine wl_end rfl ?_
       refine nm_lp ?_
       have hrc1 : (crsW (oth (zL t)) n c) ++ [(⟨ga (ga A1 c) kI, ga (ga A1 c) ((((kI : Int) + 1) % 4).toNat), ga (ga A1 c) ((((kI : Int) + 2) % 4).toNat), ga (ga A1 c) ((((kI : Int) + 3) % 4).toNat), decide ((ga (ga N1 c) 1) = (((kI : Int) + 3) % 4))⟩ : Cr)] = (crsW (oth (zL t)) n (c + 1)) := (by rw [crsW_succ]; congr 1; refine congrArg (fun x => [x]) ?_; unfold crosF; rw [← hkE, hgA, hg0, hg1, hk0]; rw [show ((kI : Int) + 1) % 4 = (((1 + kI) % 4 : Nat) : Int) by omega, show ((kI : Int) + 2) % 4 = (((2 + kI) % 4 : Nat) : Int) by omega, show ((kI : Int) + 3) % 4 = (((3 + kI) % 4 : Nat) : Int) by omega, show (0 + kI) % 4 = kI by omega]; rfl)
       rw [hrc1] at S132; clear hrc1
       intro ax_ hax_
       refine ⟨_, ?hq11m, ⟨c + 1, _, rfl, hax_.sub ⟨rfl, rfl, rfl, rfl, rfl, rfl, rfl, trivial⟩, S132.pick [0, 1, 2, 3, 4, 5, 6, 7] [_, _, _, _, _, _, _, _] (by decide) ⟨rfl, rfl, rfl, rfl, rfl, rfl, rfl, rfl, trivial⟩, ?hq11f0⟩⟩
       case hq11f0 => first | assumption | omega
       case hq11m => omega
      ·replace hb134 := of_decide_eq_false hb134
       refine ws_exit rfl rfl ?_
       refine nm_sub [(2, _), (4, _), (15, _)] ⟨rfl, rfl, rfl, trivial⟩ ?_
       refine nm_thn ?_
       refine ws_seqN Walked_n108 Walked_n109 rfl rfl rfl ?_
       refine ws_region rfl ?_
       refine wlo 0 1 rfl rfl rfl (wo_make (C := cdBool) 4 rfl rfl rfl rfl rfl sl85 (by first | rfl | omega) (by show _ * 1 ≤ _; first | omega | (simp only [lens]; omega)) S85 ?_)
       intro vr5 w126 S133; clear S85
       refine wla 1 2 rfl rfl rfl rfl rfl rfl rfl ?_
       refine wl_end rfl ?_
       refine nm_sub [(2, _), (4, _), (15, _), (19, _)] ⟨rfl, rfl, rfl, rfl, trivial⟩ ?_
       refine nm_thn ?_
       refine ws_seqN Walked_n110 Walked_n111 rfl rfl rfl ?_
       refine ws_seqN Walked_n112 Walked_n113 rfl rfl rfl ?_
       have hrc2 : List.replicate 4 cdBool.z = (sn 0) := rfl
       rw [hrc2] at S133; clear hrc2
       have hrc3 : (crsW (oth (zL t)) n c) = (crsW (oth (zL t)) n n) := (by rw [show c = n by omega])
       rw [hrc3] at S133; clear hrc3
       clear hc
       have hlenN : (crsW (oth (zL t)) n n).length = n := by unfold crsW; simp
       refine ws_region rfl ?_
       refine wla 0 1 rfl rfl rfl rfl rfl rfl rfl ?_
       refine wl_end rfl ?_
       refine nm_thn ?_
       refine ws_blockN Walked_n114 10 rfl rfl rfl ?_
       refine ws_loopE (fun mx_ ax_ wx_ => ∃ (k : Nat), mx_ = 4 - 1 * k ∧ Env 260 [(2, .pointer (some ⟨gb1, 0, none⟩)), (4, .pointer (some ⟨gb2, 0, none⟩)), (15, .pointer (some ⟨gb6, 0, none⟩)), (19, vr5), (20, .int .i64 (k : Int))] ax_ ∧ SH wx_ M X [Rs.row cdBool vr5 (sn k), Rs.row cdCr vrc (crsW (oth (zL t)) n n), Rs.box gb6 41 [vrc, .int .i64 (lpK (tieF (zL t)) k)], Rs.box gb2 41 [.slice none 0 0, .int .i64 0], Rs.box gb1 59 [.slice taA t.a.length tac, .slice tbA t.b.length tbc]] ∧ k ≤ 4) rfl ?_ ?_
       ·intro ax_ hax_
        refine ⟨_, ⟨0, rfl, hax_.sub ⟨rfl, rfl, rfl, rfl, rfl, trivial⟩, S133.pick [0, 1, 2, 7, 8] [_, _, _, _, _] (by decide) ⟨rfl, rfl, rfl, rfl, rfl, trivial⟩, ?hq12f0⟩⟩
        case hq12f0 => exact Nat.zero_le _
       ·rintro m6 a6 w127 ⟨k, rfl, he6, S134, hk⟩
        clear S133
        refine ws_in he6 (c := Walked_n115) rfl ?_
        clear he6 a6
        have hsl : (sn k).length = 4 := rfl
        have hlb := lpK_bd (tieF (zL t)) k
        refine ws_seqN Walked_n116 Walked_n117 rfl rfl rfl ?_
        refine ws_seqN Walked_n118 Walked_n119 rfl rfl rfl ?_
        refine ws_region rfl ?_
        refine wlm 0 1 rfl rfl rfl rfl rfl rfl rfl ?_
        refine wlo 1 2 rfl rfl rfl (wo_run rfl rfl (run_lss rfl rfl rfl) ?_)
        refine wl_end rfl ?_
        refine nm_sub [(2, _), (4, _), (15, _), (19, _), (20, _), (187, _)] ⟨rfl, rfl, rfl, rfl, rfl, rfl, trivial⟩ ?_
        refine nm_thn ?_
        refine ws_condN Walked_n120 Walked_n121 rfl rfl rfl rfl (fun hb187 => ?_) (fun hb187 => ?_)
        ·replace hb187 := of_decide_eq_true hb187
         refine ws_skip rfl ?_
         refine nm_sub [(2, _), (4, _), (15, _), (19, _), (20, _)] ⟨rfl, rfl, rfl, rfl, rfl, trivial⟩ ?_
         refine nm_thn ?_
         refine ws_seqN Walked_n122 Walked_n123 rfl rfl rfl ?_
         refine ws_blockN Walked_n124 11 rfl rfl rfl ?_
         refine ws_seqN Walked_n125 Walked_n126 rfl rfl rfl ?_
         refine ws_seqN Walked_n127 Walked_n128 rfl rfl rfl ?_
         refine ws_region rfl ?_
         refine wlm 0 1 rfl rfl rfl rfl rfl rfl rfl ?_
         refine wlm 1 2 rfl rfl rfl rfl rfl rfl rfl ?_
         refine wlo 2 3 rfl rfl rfl (wo_run rfl rfl (run_indexR (C := cdBool) (i := 0) k rfl rfl rfl sl85 S134 rfl (by first | rfl | omega) (by first | omega | (simp only [lens]; omega))) ?_)
         refine wlo 3 4 rfl rfl rfl (wo_run rfl rfl (run_load1 rfl rfl Try.underlying4 rfl (S134.rowc (i := 0) (e := k) (j := 0) rfl (by first | omega | (simp only [lens]; omega)) rfl rfl)) ?_)
         refine wl_end rfl ?_
         refine nm_sub [(2, _), (4, _), (15, _), (19, _), (20, _), (193, _)] ⟨rfl, rfl, rfl, rfl, rfl, rfl, trivial⟩ ?_
         refine nm_thn ?_
         refine ws_condN Walked_n129 Walked_n130 rfl rfl rfl rfl (fun hb193 => ?_) (fun hb193 => ?_)
         ·refine ws_exit rfl rfl ?_
          refine nm_sub [(2, _), (4, _), (15, _), (19, _), (20, _)] ⟨rfl, rfl, rfl, rfl, rfl, trivial⟩ ?_
          refine nm_thn ?_
          refine ws_region rfl ?_
          refine wlm 0 1 rfl rfl rfl rfl rfl rfl rfl ?_
          refine wlo 1 2 rfl rfl rfl (wo_run rfl rfl (run_add rfl rfl rfl (by first | omega | (simp only [lens]; omega))) ?_)
          refine wla 2 3 rfl rfl rfl rfl rfl rfl rfl ?_
          refine wl_end rfl ?_
          refine nm_lp ?_
          have hrc4 : (sn k) = (sn (k + 1)) := (sn_odd (by omega) hb193).1.symm
          rw [hrc4] at S134; clear hrc4
          have hlp1 : lpK (tieF (zL t)) k = lpK (tieF (zL t)) (k + 1) := (by rw [(sn_odd (by omega) hb193).2])
          rw [hlp1] at S134; clear hlp1
          intro ax_ hax_
          refine ⟨_, ?hq13m, ⟨k + 1, rfl, hax_.sub ⟨rfl, rfl, rfl, rfl, rfl, trivial⟩, S134.pick [0, 1, 2, 3, 4] [_, _, _, _, _] (by decide) ⟨rfl, rfl, rfl, rfl, rfl, trivial⟩, ?hq13f0⟩⟩
          case hq13f0 => first | assumption | omega
          case hq13m => omega
         ·have hk2 := sn_even (k := k) (by omega) (by simpa using hb193)
          obtain ⟨hv1, hv2, hv3⟩ := vd_k hvd hk2
          have hsl : (sn k).length = 4 := rfl
          refine ws_skip rfl ?_
          refine nm_sub [(2, _), (4, _), (15, _), (19, _), (20, _)] ⟨rfl, rfl, rfl, rfl, rfl, trivial⟩ ?_
          refine nm_thn ?_
          refine ws_seqN Walked_n131 Walked_n132 rfl rfl rfl ?_
          refine ws_region rfl ?_
          refine wla 0 1 rfl rfl rfl rfl rfl rfl rfl ?_
          refine wl_end rfl ?_
          refine nm_thn ?_
          refine ws_seqN Walked_n133 Walked_n134 rfl rfl rfl ?_
          refine ws_region rfl ?_
          refine wlm 0 1 rfl rfl rfl rfl rfl rfl rfl ?_
          refine wlo 1 2 rfl rfl rfl (wo_run rfl rfl (run_build (l := [_, _]) rfl rfl st61 rfl rfl) ?_)
          refine wlo 2 3 rfl rfl rfl (wo_alloc (l := [_, _]) rfl rfl rfl zr61 rfl S134 ?_)
          intro gb8 w128 S135; clear S134
          refine wlo 3 4 rfl rfl rfl (wo_storeB (i := 0) (us := [_, _]) (l' := [_, _]) (H' := [_, _, _, _, _, _]) rfl rfl S135 rfl rfl rfl rfl sz61 rfl rfl rfl rfl ?_)
          intro w129 S136; clear S135
          refine wl_end rfl ?_
          refine nm_sub [(2, _), (4, _), (15, _), (19, _), (20, _), (21, _), (22, _)] ⟨rfl, rfl, rfl, rfl, rfl, rfl, rfl, trivial⟩ ?_
          refine nm_thn ?_
          refine ws_seqN Walked_n135 Walked_n136 rfl rfl rfl ?_
          refine ws_blockN Walked_n137 12 rfl rfl rfl ?_
          refine ws_loopE (fun mx_ ax_ wx_ => ∃ (j : Nat), mx_ = 2 - 1 * j ∧ Env 260 [(2, .pointer (some ⟨gb1, 0, none⟩)), (4, .pointer (some ⟨gb2, 0, none⟩)), (15, .pointer (some ⟨gb6, 0, none⟩)), (19, vr5), (20, .int .i64 (k : Int)), (21, .bool (rgT9 (tieF (zL t)) k j)), (22, .pointer (some ⟨gb8, 0, none⟩))] ax_ ∧ SH wx_ M X [Rs.box gb8 61 [.int .i64 ((atR (tieF (zL t)) k j).c), .int .i64 ((atR (tieF (zL t)) k j).a)], Rs.row cdBool vr5 (snJ k j), Rs.row cdCr vrc (crsW (oth (zL t)) n n), Rs.box gb6 41 [vrc, .int .i64 (lpK (tieF (zL t)) k)], Rs.box gb2 41 [.slice none 0 0, .int .i64 0], Rs.box gb1 59 [.slice taA t.a.length tac, .slice tbA t.b.length tbc]] ∧ j ≤ 1) rfl ?_ ?_
          ·intro ax_ hax_
           refine ⟨_, ⟨0, rfl, hax_.sub ⟨rfl, rfl, rfl, rfl, rfl, rfl, rfl, trivial⟩, S136.pick [0, 1, 2, 3, 4, 5] [_, _, _, _, _, _] (by decide) ⟨rfl, rfl, rfl, rfl, rfl, rfl, trivial⟩, ?hq14f0⟩⟩
           case hq14f0 => exact Nat.zero_le _
          ·rintro m7 a7 w130 ⟨j, rfl, he7, S137, hj⟩
           clear S136
           refine ws_in he7 (c := Walked_n138) rfl ?_
           clear he7 a7
           have hj2 : j = 0 ∨ j = 1 := by omega
           have hsl2 : (snJ k j).length = 4 := by unfold snJ; split <;> rfl
           refine ws_seqN Walked_n139 Walked_n140 rfl rfl rfl ?_
           refine ws_seqN Walked_n141 Walked_n142 rfl rfl rfl ?_
           refine ws_region rfl ?_
           refine wlm 0 1 rfl rfl rfl rfl rfl rfl rfl ?_
           refine wlm 1 2 rfl rfl rfl rfl rfl rfl rfl ?_
           refine wl_split (t := 197) rfl (fun hg197 => ?_) (fun hg197 => ?_)
           ·have hat := atR_ring hv2 hj2 hg197
            have hat1 : (atR (tieF (zL t)) k j).a = (k : Int) := by rw [hat]; rfl
            refine wl_opG (k := 2) (k' := 3) rfl rfl ⟨_, _, _, rfl, rfl, rfl, rfl⟩ rfl (wo_run rfl rfl (run_move rfl rfl) ?_)
            refine wl_opG (k := 3) (k' := 4) rfl rfl ⟨_, _, _, rfl, rfl, rfl, rfl⟩ rfl (wo_run rfl rfl (run_fieldAddr rfl rfl Try.underlying61 rfl (ce3) (nf3)) ?_)
            refine wl_opG (k := 4) (k' := 5) rfl rfl ⟨_, _, _, rfl, rfl, rfl, rfl⟩ rfl (wo_run rfl rfl (run_load1 rfl rfl Try.underlying3 rfl (S137.boxc (i := 0) rfl rfl)) ?_)
            refine wl_opG (k := 5) (k' := 6) rfl rfl ⟨_, _, _, rfl, rfl, rfl, rfl⟩ rfl (wo_run rfl rfl (run_indexR (C := cdBool) (i := 1) (((atR (tieF (zL t)) k j).a).toNat) rfl rfl rfl sl85 S137 rfl (by first | rfl | omega) (by first | omega | (simp only [lens]; omega))) ?_)
            refine wl_opG (k := 6) (k' := 7) rfl rfl ⟨_, _, _, rfl, rfl, rfl, rfl⟩ rfl (wo_run rfl rfl (run_load1 rfl rfl Try.underlying4 rfl (S137.rowc (i := 1) (e := ((atR (tieF (zL t)) k j).a).toNat) (j := 0) rfl (by first | omega | (simp only [lens]; omega)) rfl rfl)) ?_)
            refine wl_opG (k := 7) (k' := 8) rfl rfl ⟨_, _, _, rfl, rfl, rfl, rfl⟩ rfl (wo_run rfl rfl (run_not rfl rfl) ?_)
            refine wlo 8 9 rfl rfl rfl (wo_run rfl rfl (run_pickT rfl rfl rfl) ?_)
            refine wl_end rfl ?_
            refine nm_sub [(2, _), (4, _), (15, _), (19, _), (20, _), (21, _), (22, _), (204, _)] ⟨rfl, rfl, rfl, rfl, rfl, rfl, rfl, rfl, trivial⟩ ?_
            refine nm_thn ?_
            refine ws_condN Walked_n143 Walked_n144 rfl rfl rfl rfl (fun hb204 => ?_) (fun hb204 => ?_)
            ·simp only [Bool.and_eq_true, Bool.or_eq_true, Bool.and_eq_false_iff, Bool.or_eq_false_iff, decide_eq_true_eq, decide_eq_false_iff_not, Bool.not_eq_true', Bool.not_eq_false'] at hb204
             have hj0 : j = 0 := seen_0 hk2 hj2 (by rw [hat1, Int.toNat_natCast] at hb204; simpa using hb204)
             refine ws_skip rfl ?_
             refine nm_sub [(2, _), (4, _), (15, _), (19, _), (20, _), (22, _)] ⟨rfl, rfl, rfl, rfl, rfl, rfl, trivial⟩ ?_
             refine nm_thn ?_
             refine ws_blockN Walked_n145 13 rfl rfl rfl ?_
             refine ws_seqN Walked_n146 Walked_n147 rfl rfl rfl ?_
             refine ws_region rfl ?_
             refine wlm 0 1 rfl rfl rfl rfl rfl rfl rfl ?_
             refine wlo 1 2 rfl rfl rfl (wo_run rfl rfl (run_fieldAddr rfl rfl Try.underlying61 rfl (ce3) (nf3)) ?_)
             refine wlo 2 3 rfl rfl rfl (wo_run rfl rfl (run_load1 rfl rfl Try.underlying3 rfl (S137.boxc (i := 0) rfl rfl)) ?_)
             refine wlo 3 4 rfl rfl rfl (wo_run rfl rfl (run_indexR (C := cdBool) (i := 1) (((atR (tieF (zL t)) k j).a).toNat) rfl rfl rfl sl85 S137 rfl (by first | rfl | omega) (by first | omega | (simp only [lens]; omega))) ?_)
             refine wlo 4 5 rfl rfl rfl (wo_storeR (C := cdBool) (i := 1) (e := ((atR (tieF (zL t)) k j).a).toNat) (j := 0) (us := [_]) (H' := [_, _, _, _, _, _]) true rfl rfl S137 rfl (by first | omega | (simp only [lens]; omega)) rfl rfl rfl sz4 rfl rfl rfl rfl ?_)
             intro w131 S138; clear S137
             refine wl_end rfl ?_
             refine nm_sub [(2, _), (4, _), (15, _), (19, _), (20, _), (22, _)] ⟨rfl, rfl, rfl, rfl, rfl, rfl, trivial⟩ ?_
             refine nm_thn ?_
             refine ws_seqN Walked_n148 Walked_n149 rfl rfl rfl ?_
             have hfl1 : flp (atR (tieF (zL t)) k j).a = (k : Int) + 1 := by rw [hat1]; exact hv3
             refine ws_region rfl ?_
             refine wlm 0 1 rfl rfl rfl rfl rfl rfl rfl ?_
             refine wlo 1 2 rfl rfl rfl (wo_run rfl rfl (run_fieldAddr rfl rfl Try.underlying61 rfl (ce3) (nf3)) ?_)
             refine wlo 2 3 rfl rfl rfl (wo_run rfl rfl (run_load1 rfl rfl Try.underlying3 rfl (S138.boxc (i := 0) rfl rfl)) ?_)
             refine wlo 3 4 rfl rfl rfl (wo_run rfl rfl (run_flp rfl rfl rfl (by constructor <;> first | assumption | omega)) ?_)
             refine wlo 4 5 rfl rfl rfl (wo_run rfl rfl (run_indexR (C := cdBool) (i := 1) ((flp ((atR (tieF (zL t)) k j).a)).toNat) rfl rfl rfl sl85 S138 rfl (by first | rfl | omega) (by first | omega | (simp only [lens]; omega))) ?_)
             refine wlo 5 6 rfl rfl rfl (wo_storeR (C := cdBool) (i := 1) (e := (flp ((atR (tieF (zL t)) k j).a)).toNat) (j := 0) (us := [_]) (H' := [_, _, _, _, _, _]) true rfl rfl S138 rfl (by first | omega | (simp only [lens]; omega)) rfl rfl rfl sz4 rfl rfl rfl rfl ?_)
             intro w132 S139; clear S138
             refine wl_end rfl ?_
             refine nm_sub [(2, _), (4, _), (15, _), (19, _), (20, _), (22, _)] ⟨rfl, rfl, rfl, rfl, rfl, rfl, trivial⟩ ?_
             refine nm_thn ?_
             refine ws_seqN Walked_n150 Walked_n151 rfl rfl rfl ?_
             have hrc5 : ((snJ k j).set (((atR (tieF (zL t)) k j).a).toNat) true).set ((flp ((atR (tieF (zL t)) k j).a)).toNat) true = (snJ k 1) := (by rw [hat1, hv3, Int.toNat_natCast, show ((k : Int) + 1).toNat = k + 1 by omega, hj0]; exact snJ_set hk2)
             rw [hrc5] at S139; clear hrc5
             refine ws_region rfl ?_
             refine wlo 0 1 rfl rfl rfl (wo_run rfl rfl (run_fieldAddr rfl rfl Try.underlying61 rfl (ce3) (nf3)) ?_)
             refine wlo 1 2 rfl rfl rfl (wo_run rfl rfl (run_load1 rfl rfl Try.underlying3 rfl (S139.boxc (i := 0) rfl rfl)) ?_)
             refine wlo 2 3 rfl rfl rfl (wo_run rfl rfl (run_flp rfl rfl rfl (by constructor <;> first | assumption | omega)) ?_)
             refine wlo 3 4 rfl rfl rfl (wo_run rfl rfl (run_build (l := [_, _]) rfl rfl st61 rfl rfl) ?_)
             refine wlo 4 5 rfl rfl rfl (wo_alloc (l := [_, _]) rfl rfl rfl zr61 rfl S139 ?_)
             intro gb9 w133 S140; clear S139
             refine wlo 5 6 rfl rfl rfl (wo_storeB (i := 0) (us := [_, _]) (l' := [_, _]) (H' := [_, _, _, _, _, _, _]) rfl rfl S140 rfl rfl rfl rfl sz61 rfl rfl rfl rfl ?_)
             intro w134 S141; clear S140
             refine wl_end rfl ?_
             refine nm_sub [(2, _), (4, _), (15, _), (19, _), (20, _), (22, _), (23, _)] ⟨rfl, rfl, rfl, rfl, rfl, rfl, rfl, trivial⟩ ?_
             refine nm_thn ?_
             refine ws_seqN Walked_n152 Walked_n153 rfl rfl rfl ?_
             refine ws_region rfl ?_
             refine wlo 0 1 rfl rfl rfl (wo_run rfl rfl (run_loadN (us := [_, _]) rfl rfl Try.underlying61 rfl sz61 (S141.boxcs (i := 0) rfl ⟨rfl, rfl, trivial⟩)) ?_)
             refine wlo 1 2 rfl rfl rfl (wo_alloc (l := [_, _]) rfl rfl rfl zr61 rfl S141 ?_)
             intro gb10 w135 S142; clear S141
             refine wlo 2 3 rfl rfl rfl (wo_storeB (i := 0) (us := [_, _]) (l' := [_, _]) (H' := [_, _, _, _, _, _, _, _]) rfl rfl S142 rfl rfl rfl rfl sz61 rfl rfl rfl rfl ?_)
             intro w136 S143; clear S142
             refine wl_end rfl ?_
             refine nm_sub [(2, _), (4, _), (15, _), (19, _), (20, _), (22, _), (23, _), (24, _)] ⟨rfl, rfl, rfl, rfl, rfl, rfl, rfl, rfl, trivial⟩ ?_
             refine nm_thn ?_
             refine ws_seqN Walked_n154 Walked_n155 rfl rfl rfl ?_
             refine ws_seqN Walked_n156 Walked_n157 rfl rfl rfl ?_
             have hto1 : flp ((atR (tieF (zL t)) k j).a) = (k : Int) + 1 := by rw [hat1]; exact hv3
             rw [hto1] at S143; clear hto1
             refine ws_region rfl ?_
             refine wla 0 1 rfl rfl rfl rfl rfl rfl rfl ?_
             refine wl_end rfl ?_
             refine nm_thn ?_
             refine ws_blockN Walked_n158 14 rfl rfl rfl ?_
             refine ws_loopE (fun mx_ ax_ wx_ => ∃ (i : Nat) (x : Sp), mx_ = t.a.length - 1 * i ∧ Env 260 [(2, .pointer (some ⟨gb1, 0, none⟩)), (4, .pointer (some ⟨gb2, 0, none⟩)), (15, .pointer (some ⟨gb6, 0, none⟩)), (19, vr5), (20, .int .i64 (k : Int)), (22, .pointer (some ⟨gb8, 0, none⟩)), (23, .pointer (some ⟨gb9, 0, none⟩)), (24, .pointer (some ⟨gb10, 0, none⟩)), (25, .int .i64 (i : Int))] ax_ ∧ SH wx_ M X [Rs.box gb10 61 [.int .i64 x.c, .int .i64 x.a], Rs.box gb9 61 [.int .i64 (-1), .int .i64 ((k : Int) + 1)], Rs.box gb8 61 [.int .i64 ((atR (tieF (zL t)) k j).c), .int .i64 ((atR (tieF (zL t)) k j).a)], Rs.row cdBool vr5 (snJ k 1), Rs.row cdCr vrc (crsW (oth (zL t)) n n), Rs.box gb6 41 [vrc, .int .i64 (lpK (tieF (zL t)) k)], Rs.box gb2 41 [.slice none 0 0, .int .i64 0], Rs.box gb1 59 [.slice taA t.a.length tac, .slice tbA t.b.length tbc]] ∧ i ≤ t.a.length ∧ (x = rK (tieF (zL t)) k ∨ (x = (vt ((k : Int) + 1)) ∧ tieF ((zL t).drop i) (vt ((k : Int) + 1)) = some (rK (tieF (zL t)) k)))) rfl ?_ ?_
             ·intro ax_ hax_
              refine ⟨_, ⟨0, (vt ((k : Int) + 1)), rfl, hax_.sub ⟨rfl, rfl, rfl, rfl, rfl, rfl, rfl, rfl, rfl, trivial⟩, S143.pick [0, 1, 2, 3, 4, 5, 6, 7] [_, _, _, _, _, _, _, _] (by decide) ⟨rfl, rfl, rfl, rfl, rfl, rfl, rfl, rfl, trivial⟩, ?hq15f0, ?hq15f1⟩⟩
              case hq15f0 => exact Nat.zero_le _
              case hq15f1 => exact .inr ⟨rfl, hv1⟩
             ·rintro m8 a8 w137 ⟨i, x, rfl, he8, S144, hi, hx⟩
              clear S143
              refine ws_in he8 (c := Walked_n159) rfl ?_
              clear he8 a8
              refine ws_seqN Walked_n160 Walked_n161 rfl rfl rfl ?_
              refine ws_seqN Walked_n162 Walked_n163 rfl rfl rfl ?_
              refine ws_region rfl ?_
              refine wlm 0 1 rfl rfl rfl rfl rfl rfl rfl ?_
              refine wlo 1 2 rfl rfl rfl (wo_run rfl rfl (run_fieldAddr rfl rfl Try.underlying59 rfl (ce57) (nf57)) ?_)
              refine wlo 2 3 rfl rfl rfl (wo_run rfl rfl (run_load1 rfl rfl Try.underlying57 rfl (S144.boxc (i := 7) rfl rfl)) ?_)
              refine wlo 3 4 rfl rfl rfl (wo_run rfl rfl (run_len rfl rfl rfl rfl rfl rfl Try.underlying57) ?_)
              refine wlo 4 5 rfl rfl rfl (wo_run rfl rfl (run_lss rfl rfl rfl) ?_)
              refine wl_end rfl ?_
              refine nm_sub [(2, _), (4, _), (15, _), (19, _), (20, _), (22, _), (23, _), (24, _), (25, _), (223, _)] ⟨rfl, rfl, rfl, rfl, rfl, rfl, rfl, rfl, rfl, rfl, trivial⟩ ?_
              refine nm_thn ?_
              refine ws_condN Walked_n164 Walked_n165 rfl rfl rfl rfl (fun hb223 => ?_) (fun hb223 => ?_)
              ·replace hb223 := of_decide_eq_true hb223
               have hil : i < t.a.length := by omega
               refine ws_skip rfl ?_
               refine nm_sub [(2, _), (4, _), (15, _), (19, _), (20, _), (22, _), (23, _), (24, _), (25, _)] ⟨rfl, rfl, rfl, rfl, rfl, rfl, rfl, rfl, rfl, trivial⟩ ?_
               refine nm_thn ?_
               refine ws_seqN Walked_n166 Walked_n167 rfl rfl rfl ?_
               refine ws_blockN Walked_n168 15 rfl rfl rfl ?_
               refine ws_seqN Walked_n169 Walked_n170 rfl rfl rfl ?_
               refine ws_seqN Walked_n171 Walked_n172 rfl rfl rfl ?_
               refine ws_draw rfl (by kernel_rfl) S144 7 rfl ?_
               clear S144
               refine wa_takeP (i := 0) (d := 226) 6 rfl (by kernel_rfl) (by kernel_rfl) (by kernel_rfl) rfl rfl rfl (fun w138 => run_fieldAddr rfl rfl Try.underlying59 rfl (ce57) (nf57)) ?_
               refine wa_take (i := 1) (d := 227) 5 rfl (by kernel_rfl) (by kernel_rfl) (by kernel_rfl) rfl rfl rfl (fun M84 N84 w139 hle92 S146 => .inl (run_load1 rfl rfl Try.underlying57 rfl (S146.suf.boxc (i := 7) rfl rfl))) ?_
               refine wa_takeP (i := 2) (d := 228) 4 rfl (by kernel_rfl) (by kernel_rfl) (by kernel_rfl) rfl rfl rfl (fun w140 => run_move rfl rfl) ?_
               refine wa_take (i := 3) (d := 229) 3 rfl (by kernel_rfl) (by kernel_rfl) (by kernel_rfl) rfl rfl rfl (fun M86 N86 w141 hle94 S148 => .inl (run_indexM (C := cdSp) i rfl rfl rfl sl57 (by first | rfl | omega) (hta.mono (Hp.un_mono hle94 S148.mx)) (by first | omega | (simp only [lens]; omega)))) ?_
               refine wa_take (i := 4) (d := 230) 2 rfl (by kernel_rfl) (by kernel_rfl) (by kernel_rfl) rfl rfl rfl (fun M87 N87 w142 hle95 S149 => .inl (run_loadN (us := [_, _]) rfl rfl Try.underlying61 rfl sz61 ((hta.mono (Hp.un_mono hle95 S149.mx)).cellsAt S149.um (e := i) (by first | omega | (simp only [lens]; omega)) (j := 0) ⟨rfl, rfl, trivial⟩))) ?_
               refine wa_take (i := 5) (d := 231) 1 rfl (by kernel_rfl) (by kernel_rfl) (by kernel_rfl) rfl rfl rfl (fun M88 N88 w143 hle96 S150 => .inl (run_loadN (us := [_, _]) rfl rfl Try.underlying61 rfl sz61 (S150.suf.boxcs (i := 1) rfl ⟨rfl, rfl, trivial⟩))) ?_
               refine wa_takeP (i := 6) (d := 232) 0 rfl (by kernel_rfl) (by kernel_rfl) (by kernel_rfl) rfl rfl rfl (fun w144 => run_eqSt (Q := ((ga t.a i).c) = (-1) ∧ ((ga t.a i).a) = ((k : Int) + 1)) rfl rfl rfl se61 ⟨_, _, _, _, rfl, rfl, ⟨_, _, _, rfl, rfl, rfl⟩, rfl⟩) ?_
               refine wa_end (by kernel_rfl) (fun w145 S152 => ?_)
               refine nm_sub [(2, _), (4, _), (15, _), (19, _), (20, _), (22, _), (23, _), (24, _), (25, _), (232, _)] ⟨rfl, rfl, rfl, rfl, rfl, rfl, rfl, rfl, rfl, rfl, trivial⟩ ?_
               refine nm_thn ?_
               refine ws_condN Walked_n173 Walked_n174 rfl rfl rfl rfl (fun hb232 => ?_) (fun hb232 => ?_)
               ·replace hb232 := of_decide_eq_true hb232
                refine ws_region rfl ?_
                refine wlo 0 1 rfl rfl rfl (wo_run rfl rfl (run_fieldAddr rfl rfl Try.underlying59 rfl (ce57) (nf57)) ?_)
                refine wlo 1 2 rfl rfl rfl (wo_run rfl rfl (run_load1 rfl rfl Try.underlying57 rfl (S152.boxc (i := 7) rfl rfl)) ?_)
                refine wlm 2 3 rfl rfl rfl rfl rfl rfl rfl ?_
                refine wlo 3 4 rfl rfl rfl (wo_run rfl rfl (run_indexM (C := cdSp) i rfl rfl rfl sl57 (by first | rfl | omega) htb (by first | omega | (simp only [lens]; omega))) ?_)
                refine wlo 4 5 rfl rfl rfl (wo_run rfl rfl (run_loadN (us := [_, _]) rfl rfl Try.underlying61 rfl sz61 (htb.cellsAt S152.um (e := i) (by first | omega | (simp only [lens]; omega)) (j := 0) ⟨rfl, rfl, trivial⟩)) ?_)
                refine wlo 5 6 rfl rfl rfl (wo_storeB (i := 0) (us := [_, _]) (l' := [_, _]) (H' := [_, _, _, _, _, _, _, _]) rfl rfl S152 rfl rfl rfl rfl sz61 rfl rfl rfl rfl ?_)
                intro w146 S153; clear S152
                refine wl_end rfl ?_
                refine nm_sub [(2, _), (4, _), (15, _), (19, _), (20, _), (22, _), (23, _), (24, _), (25, _)] ⟨rfl, rfl, rfl, rfl, rfl, rfl, rfl, rfl, rfl, trivial⟩ ?_
                refine nm_thn ?_
                refine ws_seqN Walked_n175 Walked_n176 rfl rfl rfl ?_
                refine ws_draw rfl (by kernel_rfl) S153 7 rfl ?_
                clear S153
                refine wa_takeP (i := 0) (d := 238) 6 rfl (by kernel_rfl) (by kernel_rfl) (by kernel_rfl) rfl rfl rfl (fun w147 => run_fieldAddr rfl rfl Try.underlying59 rfl (ce57) (nf57)) ?_
                refine wa_take (i := 1) (d := 239) 5 rfl (by kernel_rfl) (by kernel_rfl) (by kernel_rfl) rfl rfl rfl (fun M91 N91 w148 hle99 S155 => .inl (run_load1 rfl rfl Try.underlying57 rfl (S155.suf.boxc (i := 7) rfl rfl))) ?_
                refine wa_takeP (i := 2) (d := 240) 4 rfl (by kernel_rfl) (by kernel_rfl) (by kernel_rfl) rfl rfl rfl (fun w149 => run_move rfl rfl) ?_
                refine wa_take (i := 3) (d := 241) 3 rfl (by kernel_rfl) (by kernel_rfl) (by kernel_rfl) rfl rfl rfl (fun M93 N93 w150 hle101 S157 => .inl (run_indexM (C := cdSp) i rfl rfl rfl sl57 (by first | rfl | omega) (htb.mono (Hp.un_mono hle101 S157.mx)) (by first | omega | (simp only [lens]; omega)))) ?_
                refine wa_take (i := 4) (d := 242) 2 rfl (by kernel_rfl) (by kernel_rfl) (by kernel_rfl) rfl rfl rfl (fun M94 N94 w151 hle102 S158 => .inl (run_loadN (us := [_, _]) rfl rfl Try.underlying61 rfl sz61 ((htb.mono (Hp.un_mono hle102 S158.mx)).cellsAt S158.um (e := i) (by first | omega | (simp only [lens]; omega)) (j := 0) ⟨rfl, rfl, trivial⟩))) ?_
                refine wa_take (i := 5) (d := 243) 1 rfl (by kernel_rfl) (by kernel_rfl) (by kernel_rfl) rfl rfl rfl (fun M95 N95 w152 hle103 S159 => .inl (run_loadN (us := [_, _]) rfl rfl Try.underlying61 rfl sz61 (S159.suf.boxcs (i := 1) rfl ⟨rfl, rfl, trivial⟩))) ?_
                refine wa_takeP (i := 6) (d := 244) 0 rfl (by kernel_rfl) (by kernel_rfl) (by kernel_rfl) rfl rfl rfl (fun w153 => run_eqSt (Q := ((ga t.b i).c) = (-1) ∧ ((ga t.b i).a) = ((k : Int) + 1)) rfl rfl rfl se61 ⟨_, _, _, _, rfl, rfl, ⟨_, _, _, rfl, rfl, rfl⟩, rfl⟩) ?_
                refine wa_end (by kernel_rfl) (fun w154 S161 => ?_)
                refine nm_sub [(2, _), (4, _), (15, _), (19, _), (20, _), (22, _), (23, _), (24, _), (25, _), (244, _)] ⟨rfl, rfl, rfl, rfl, rfl, rfl, rfl, rfl, rfl, rfl, trivial⟩ ?_
                refine nm_thn ?_
                refine ws_condN Walked_n177 Walked_n178 rfl rfl rfl rfl (fun hb244 => ?_) (fun hb244 => ?_)
                ·replace hb244 := of_decide_eq_true hb244
                 refine ws_region rfl ?_
                 refine wlo 0 1 rfl rfl rfl (wo_run rfl rfl (run_fieldAddr rfl rfl Try.underlying59 rfl (ce57) (nf57)) ?_)
                 refine wlo 1 2 rfl rfl rfl (wo_run rfl rfl (run_load1 rfl rfl Try.underlying57 rfl (S161.boxc (i := 7) rfl rfl)) ?_)
                 refine wlm 2 3 rfl rfl rfl rfl rfl rfl rfl ?_
                 refine wlo 3 4 rfl rfl rfl (wo_run rfl rfl (run_indexM (C := cdSp) i rfl rfl rfl sl57 (by first | rfl | omega) hta (by first | omega | (simp only [lens]; omega))) ?_)
                 refine wlo 4 5 rfl rfl rfl (wo_run rfl rfl (run_loadN (us := [_, _]) rfl rfl Try.underlying61 rfl sz61 (hta.cellsAt S161.um (e := i) (by first | omega | (simp only [lens]; omega)) (j := 0) ⟨rfl, rfl, trivial⟩)) ?_)
                 refine wlo 5 6 rfl rfl rfl (wo_storeB (i := 0) (us := [_, _]) (l' := [_, _]) (H' := [_, _, _, _, _, _, _, _]) rfl rfl S161 rfl rfl rfl rfl sz61 rfl rfl rfl rfl ?_)
                 intro w155 S162; clear S161
                 refine wl_end rfl ?_
                 refine nm_blk ?_
                 refine nm_sub [(2, _), (4, _), (15, _), (19, _), (20, _), (22, _), (23, _), (24, _), (25, _)] ⟨rfl, rfl, rfl, rfl, rfl, rfl, rfl, rfl, rfl, trivial⟩ ?_
                 refine nm_thn ?_
                 refine ws_region rfl ?_
                 refine wlm 0 1 rfl rfl rfl rfl rfl rfl rfl ?_
                 refine wlo 1 2 rfl rfl rfl (wo_run rfl rfl (run_add rfl rfl rfl (by first | omega | (simp only [lens]; omega))) ?_)
                 refine wla 2 3 rfl rfl rfl rfl rfl rfl rfl ?_
                 refine wl_end rfl ?_
                 refine nm_lp ?_
                 intro ax_ hax_
                 refine ⟨_, ?hq16m, ⟨i + 1, ga t.a i, rfl, hax_.sub ⟨rfl, rfl, rfl, rfl, rfl, rfl, rfl, rfl, rfl, trivial⟩, S162.pick [0, 1, 2, 3, 4, 5, 6, 7] [_, _, _, _, _, _, _, _] (by decide) ⟨rfl, rfl, rfl, rfl, rfl, rfl, rfl, rfl, trivial⟩, ?hq16f0, ?hq16f1⟩⟩
                 case hq16f0 => omega
                 case hq16f1 => first | exact .inl (next_b hu hil hv1 ((sp_eq (y := vt ((k : Int) + 1))).1 hb244)) | exact .inl (next_a hu hil hv1 ((sp_eq (y := vt ((k : Int) + 1))).1 hb232)) | exact hx.imp id fun h9 => ⟨h9.1, tieF_n hil hlen h9.2 (fun e => hb232 ((sp_eq (y := vt ((k : Int) + 1))).2 e)) (fun e => hb244 ((sp_eq (y := vt ((k : Int) + 1))).2 e))⟩
                 case hq16m => omega
                ·replace hb244 := of_decide_eq_false hb244
                 refine ws_skip rfl ?_
                 refine nm_blk ?_
                 refine nm_sub [(2, _), (4, _), (15, _), (19, _), (20, _), (22, _), (23, _), (24, _), (25, _)] ⟨rfl, rfl, rfl, rfl, rfl, rfl, rfl, rfl, rfl, trivial⟩ ?_
                 refine nm_thn ?_
                 refine ws_region rfl ?_
                 refine wlm 0 1 rfl rfl rfl rfl rfl rfl rfl ?_
                 refine wlo 1 2 rfl rfl rfl (wo_run rfl rfl (run_add rfl rfl rfl (by first | omega | (simp only [lens]; omega))) ?_)
                 refine wla 2 3 rfl rfl rfl rfl rfl rfl rfl ?_
                 refine wl_end rfl ?_
                 refine nm_lp ?_
                 intro ax_ hax_
                 refine ⟨_, ?hq17m, ⟨i + 1, ga t.b i, rfl, hax_.sub ⟨rfl, rfl, rfl, rfl, rfl, rfl, rfl, rfl, rfl, trivial⟩, S161.pick [0, 1, 2, 3, 4, 5, 6, 7] [_, _, _, _, _, _, _, _] (by decide) ⟨rfl, rfl, rfl, rfl, rfl, rfl, rfl, rfl, trivial⟩, ?hq17f0, ?hq17f1⟩⟩
                 case hq17f0 => omega
                 case hq17f1 => first | exact .inl (next_b hu hil hv1 ((sp_eq (y := vt ((k : Int) + 1))).1 hb244)) | exact .inl (next_a hu hil hv1 ((sp_eq (y := vt ((k : Int) + 1))).1 hb232)) | exact hx.imp id fun h9 => ⟨h9.1, tieF_n hil hlen h9.2 (fun e => hb232 ((sp_eq (y := vt ((k : Int) + 1))).2 e)) (fun e => hb244 ((sp_eq (y := vt ((k : Int) + 1))).2 e))⟩
                 case hq17m => omega
               ·replace hb232 := of_decide_eq_false hb232
                refine ws_skip rfl ?_
                refine nm_sub [(2, _), (4, _), (15, _), (19, _), (20, _), (22, _), (23, _), (24, _), (25, _)] ⟨rfl, rfl, rfl, rfl, rfl, rfl, rfl, rfl, rfl, trivial⟩ ?_
                refine nm_thn ?_
                refine ws_seqN Walked_n175 Walked_n176 rfl rfl rfl ?_
                refine ws_draw rfl (by kernel_rfl) S152 7 rfl ?_
                clear S152
                refine wa_takeP (i := 0) (d := 238) 6 rfl (by kernel_rfl) (by kernel_rfl) (by kernel_rfl) rfl rfl rfl (fun w156 => run_fieldAddr rfl rfl Try.underlying59 rfl (ce57) (nf57)) ?_
                refine wa_take (i := 1) (d := 239) 5 rfl (by kernel_rfl) (by kernel_rfl) (by kernel_rfl) rfl rfl rfl (fun M98 N98 w157 hle106 S164 => .inl (run_load1 rfl rfl Try.underlying57 rfl (S164.suf.boxc (i := 7) rfl rfl))) ?_
                refine wa_takeP (i := 2) (d := 240) 4 rfl (by kernel_rfl) (by kernel_rfl) (by kernel_rfl) rfl rfl rfl (fun w158 => run_move rfl rfl) ?_
                refine wa_take (i := 3) (d := 241) 3 rfl (by kernel_rfl) (by kernel_rfl) (by kernel_rfl) rfl rfl rfl (fun M100 N100 w159 hle108 S166 => .inl (run_indexM (C := cdSp) i rfl rfl rfl sl57 (by first | rfl | omega) (htb.mono (Hp.un_mono hle108 S166.mx)) (by first | omega | (simp only [lens]; omega)))) ?_
                refine wa_take (i := 4) (d := 242) 2 rfl (by kernel_rfl) (by kernel_rfl) (by kernel_rfl) rfl rfl rfl (fun M101 N101 w160 hle109 S167 => .inl (run_loadN (us := [_, _]) rfl rfl Try.underlying61 rfl sz61 ((htb.mono (Hp.un_mono hle109 S167.mx)).cellsAt S167.um (e := i) (by first | omega | (simp only [lens]; omega)) (j := 0) ⟨rfl, rfl, trivial⟩))) ?_
                refine wa_take (i := 5) (d := 243) 1 rfl (by kernel_rfl) (by kernel_rfl) (by kernel_rfl) rfl rfl rfl (fun M102 N102 w161 hle110 S168 => .inl (run_loadN (us := [_, _]) rfl rfl Try.underlying61 rfl sz61 (S168.suf.boxcs (i := 1) rfl ⟨rfl, rfl, trivial⟩))) ?_
                refine wa_takeP (i := 6) (d := 244) 0 rfl (by kernel_rfl) (by kernel_rfl) (by kernel_rfl) rfl rfl rfl (fun w162 => run_eqSt (Q := ((ga t.b i).c) = (-1) ∧ ((ga t.b i).a) = ((k : Int) + 1)) rfl rfl rfl se61 ⟨_, _, _, _, rfl, rfl, ⟨_, _, _, rfl, rfl, rfl⟩, rfl⟩) ?_
                refine wa_end (by kernel_rfl) (fun w163 S170 => ?_)
                refine nm_sub [(2, _), (4, _), (15, _), (19, _), (20, _), (22, _), (23, _), (24, _), (25, _), (244, _)] ⟨rfl, rfl, rfl, rfl, rfl, rfl, rfl, rfl, rfl, rfl, trivial⟩ ?_
                refine nm_thn ?_
                refine ws_condN Walked_n177 Walked_n178 rfl rfl rfl rfl (fun hb244 => ?_) (fun hb244 => ?_)
                ·replace hb244 := of_decide_eq_true hb244
                 refine ws_region rfl ?_
                 refine wlo 0 1 rfl rfl rfl (wo_run rfl rfl (run_fieldAddr rfl rfl Try.underlying59 rfl (ce57) (nf57)) ?_)
                 refine wlo 1 2 rfl rfl rfl (wo_run rfl rfl (run_load1 rfl rfl Try.underlying57 rfl (S170.boxc (i := 7) rfl rfl)) ?_)
                 refine wlm 2 3 rfl rfl rfl rfl rfl rfl rfl ?_
                 refine wlo 3 4 rfl rfl rfl (wo_run rfl rfl (run_indexM (C := cdSp) i rfl rfl rfl sl57 (by first | rfl | omega) hta (by first | omega | (simp only [lens]; omega))) ?_)
                 refine wlo 4 5 rfl rfl rfl (wo_run rfl rfl (run_loadN (us := [_, _]) rfl rfl Try.underlying61 rfl sz61 (hta.cellsAt S170.um (e := i) (by first | omega | (simp only [lens]; omega)) (j := 0) ⟨rfl, rfl, trivial⟩)) ?_)
                 refine wlo 5 6 rfl rfl rfl (wo_storeB (i := 0) (us := [_, _]) (l' := [_, _]) (H' := [_, _, _, _, _, _, _, _]) rfl rfl S170 rfl rfl rfl rfl sz61 rfl rfl rfl rfl ?_)
                 intro w164 S171; clear S170
                 refine wl_end rfl ?_
                 refine nm_blk ?_
                 refine nm_sub [(2, _), (4, _), (15, _), (19, _), (20, _), (22, _), (23, _), (24, _), (25, _)] ⟨rfl, rfl, rfl, rfl, rfl, rfl, rfl, rfl, rfl, trivial⟩ ?_
                 refine nm_thn ?_
                 refine ws_region rfl ?_
                 refine wlm 0 1 rfl rfl rfl rfl rfl rfl rfl ?_
                 refine wlo 1 2 rfl rfl rfl (wo_run rfl rfl (run_add rfl rfl rfl (by first | omega | (simp only [lens]; omega))) ?_)
                 refine wla 2 3 rfl rfl rfl rfl rfl rfl rfl ?_
                 refine wl_end rfl ?_
                 refine nm_lp ?_
                 intro ax_ hax_
                 refine ⟨_, ?hq18m, ⟨i + 1, ga t.a i, rfl, hax_.sub ⟨rfl, rfl, rfl, rfl, rfl, rfl, rfl, rfl, rfl, trivial⟩, S171.pick [0, 1, 2, 3, 4, 5, 6, 7] [_, _, _, _, _, _, _, _] (by decide) ⟨rfl, rfl, rfl, rfl, rfl, rfl, rfl, rfl, trivial⟩, ?hq18f0, ?hq18f1⟩⟩
                 case hq18f0 => omega
                 case hq18f1 => first | exact .inl (next_b hu hil hv1 ((sp_eq (y := vt ((k : Int) + 1))).1 hb244)) | exact .inl (next_a hu hil hv1 ((sp_eq (y := vt ((k : Int) + 1))).1 hb232)) | exact hx.imp id fun h9 => ⟨h9.1, tieF_n hil hlen h9.2 (fun e => hb232 ((sp_eq (y := vt ((k : Int) + 1))).2 e)) (fun e => hb244 ((sp_eq (y := vt ((k : Int) + 1))).2 e))⟩
                 case hq18m => omega
                ·replace hb244 := of_decide_eq_false hb244
                 refine ws_skip rfl ?_
                 refine nm_blk ?_
                 refine nm_sub [(2, _), (4, _), (15, _), (19, _), (20, _), (22, _), (23, _), (24, _), (25, _)] ⟨rfl, rfl, rfl, rfl, rfl, rfl, rfl, rfl, rfl, trivial⟩ ?_
                 refine nm_thn ?_
                 refine ws_region rfl ?_
                 refine wlm 0 1 rfl rfl rfl rfl rfl rfl rfl ?_
                 refine wlo 1 2 rfl rfl rfl (wo_run rfl rfl (run_add rfl rfl rfl (by first | omega | (simp only [lens]; omega))) ?_)
                 refine wla 2 3 rfl rfl rfl rfl rfl rfl rfl ?_
                 refine wl_end rfl ?_
                 refine nm_lp ?_
                 intro ax_ hax_
                 refine ⟨_, ?hq19m, ⟨i + 1, x, rfl, hax_.sub ⟨rfl, rfl, rfl, rfl, rfl, rfl, rfl, rfl, rfl, trivial⟩, S170.pick [0, 1, 2, 3, 4, 5, 6, 7] [_, _, _, _, _, _, _, _] (by decide) ⟨rfl, rfl, rfl, rfl, rfl, rfl, rfl, rfl, trivial⟩, ?hq19f0, ?hq19f1⟩⟩
                 case hq19f0 => omega
                 case hq19f1 => first | exact .inl (next_b hu hil hv1 ((sp_eq (y := vt ((k : Int) + 1))).1 hb244)) | exact .inl (next_a hu hil hv1 ((sp_eq (y := vt ((k : Int) + 1))).1 hb232)) | exact hx.imp id fun h9 => ⟨h9.1, tieF_n hil hlen h9.2 (fun e => hb232 ((sp_eq (y := vt ((k : Int) + 1))).2 e)) (fun e => hb244 ((sp_eq (y := vt ((k : Int) + 1))).2 e))⟩
                 case hq19m => omega
              ·replace hb223 := of_decide_eq_false hb223
               refine ws_exit rfl rfl ?_
               refine nm_sub [(2, _), (4, _), (15, _), (19, _), (20, _), (22, _), (24, _)] ⟨rfl, rfl, rfl, rfl, rfl, rfl, rfl, trivial⟩ ?_
               refine nm_thn ?_
               refine ws_seqN Walked_n179 Walked_n180 rfl rfl rfl ?_
               have hxr : x = rK (tieF (zL t)) k := hx.elim id fun h9 => by have := tieF_z (by omega) h9.2; cases this
               refine ws_region rfl ?_
               refine wlo 0 1 rfl rfl rfl (wo_run rfl rfl (run_fieldAddr rfl rfl Try.underlying61 rfl (ce3) (nf3)) ?_)
               refine wlo 1 2 rfl rfl rfl (wo_run rfl rfl (run_load1 rfl rfl Try.underlying3 rfl (S144.boxc (i := 0) rfl rfl)) ?_)
               refine wlo 2 3 rfl rfl rfl (wo_run rfl rfl (run_lss rfl rfl rfl) ?_)
               refine wla 3 4 rfl rfl rfl rfl rfl rfl rfl ?_
               refine wl_end rfl ?_
               refine nm_sub [(2, _), (4, _), (15, _), (19, _), (20, _), (22, _), (24, _), (21, _)] ⟨rfl, rfl, rfl, rfl, rfl, rfl, rfl, rfl, trivial⟩ ?_
               refine nm_thn ?_
               refine ws_region rfl ?_
               refine wlo 0 1 rfl rfl rfl (wo_run rfl rfl (run_loadN (us := [_, _]) rfl rfl Try.underlying61 rfl sz61 (S144.boxcs (i := 0) rfl ⟨rfl, rfl, trivial⟩)) ?_)
               refine wlo 1 2 rfl rfl rfl (wo_storeB (i := 2) (us := [_, _]) (l' := [_, _]) (H' := [_, _, _, _, _, _, _, _]) rfl rfl S144 rfl rfl rfl rfl sz61 rfl rfl rfl rfl ?_)
               intro w165 S172; clear S144
               refine wl_end rfl ?_
               refine nm_blk ?_
               refine nm_lp ?_
               rw [hxr]
               rw [hxr] at S172
               intro ax_ hax_
               refine ⟨_, ?hq20m, ⟨1, rfl, hax_.sub ⟨rfl, rfl, rfl, rfl, rfl, rfl, rfl, trivial⟩, S172.pick [2, 3, 4, 5, 6, 7] [_, _, _, _, _, _] (by decide) ⟨rfl, rfl, rfl, rfl, rfl, rfl, trivial⟩, ?hq20f0⟩⟩
               case hq20f0 => omega
               case hq20m => omega
            ·simp only [Bool.and_eq_true, Bool.or_eq_true, Bool.and_eq_false_iff, Bool.or_eq_false_iff, decide_eq_true_eq, decide_eq_false_iff_not, Bool.not_eq_true', Bool.not_eq_false'] at hb204
             have hj1 : j = 1 := seen_1 hk2 hj2 (by rw [hat1, Int.toNat_natCast] at hb204; simpa using hb204)
             refine ws_exit rfl rfl ?_
             refine nm_sub [(2, _), (4, _), (15, _), (19, _), (20, _), (21, _)] ⟨rfl, rfl, rfl, rfl, rfl, rfl, trivial⟩ ?_
             refine nm_thn ?_
             refine ws_seqN Walked_n181 Walked_n182 rfl rfl rfl ?_
             refine ws_region rfl ?_
             refine wlm 0 1 rfl rfl rfl rfl rfl rfl rfl ?_
             refine wl_end rfl ?_
             refine nm_sub [(2, _), (4, _), (15, _), (19, _), (20, _), (254, _)] ⟨rfl, rfl, rfl, rfl, rfl, rfl, trivial⟩ ?_
             refine nm_thn ?_
             refine ws_condN Walked_n183 Walked_n184 rfl rfl rfl rfl (fun hb254 => ?_) (fun hb254 => ?_)
             ·have hrn : (rK (tieF (zL t)) k).c < 0 := by (rw [hj1] at hb254; have h9 : decide ((rK (tieF (zL t)) k).c < 0) = true := hb254; simpa using h9)
              refine ws_region rfl ?_
              refine wlo 0 1 rfl rfl rfl (wo_run rfl rfl (run_fieldAddr rfl rfl Try.underlying41 rfl (ce3) (nf3)) ?_)
              refine wlo 1 2 rfl rfl rfl (wo_run rfl rfl (run_load1 rfl rfl Try.underlying3 rfl (S137.boxc (i := 3) rfl rfl)) ?_)
              refine wlo 2 3 rfl rfl rfl (wo_run rfl rfl (run_add rfl rfl rfl (by first | omega | (simp only [lens]; omega))) ?_)
              refine wlo 3 4 rfl rfl rfl (wo_run rfl rfl (run_fieldAddr rfl rfl Try.underlying41 rfl (ce3) (nf3)) ?_)
              refine wlo 4 5 rfl rfl rfl (wo_storeB (i := 3) (us := [_]) (l' := [_, _]) (H' := [_, _, _, _, _, _]) rfl rfl S137 rfl rfl rfl rfl sz3 rfl rfl rfl rfl ?_)
              intro w166 S173; clear S137
              refine wl_end rfl ?_
              refine nm_blk ?_
              refine nm_sub [(2, _), (4, _), (15, _), (19, _), (20, _)] ⟨rfl, rfl, rfl, rfl, rfl, trivial⟩ ?_
              refine nm_thn ?_
              refine ws_region rfl ?_
              refine wlm 0 1 rfl rfl rfl rfl rfl rfl rfl ?_
              refine wlo 1 2 rfl rfl rfl (wo_run rfl rfl (run_add rfl rfl rfl (by first | omega | (simp only [lens]; omega))) ?_)
              refine wla 2 3 rfl rfl rfl rfl rfl rfl rfl ?_
              refine wl_end rfl ?_
              refine nm_lp ?_
              have hrc6 : (snJ k j) = (sn (k + 1)) := (by rw [show j = 1 by omega]; rfl)
              rw [hrc6] at S173; clear hrc6
              have hlp2 : (lpK (tieF (zL t)) k) + 1 = lpK (tieF (zL t)) (k + 1) := (by have := lpK_even hvd hk2; rw [this, if_pos (by omega)])
              rw [hlp2] at S173; clear hlp2
              intro ax_ hax_
              refine ⟨_, ?hq21m, ⟨k + 1, rfl, hax_.sub ⟨rfl, rfl, rfl, rfl, rfl, trivial⟩, S173.pick [1, 2, 3, 4, 5] [_, _, _, _, _] (by decide) ⟨rfl, rfl, rfl, rfl, rfl, trivial⟩, ?hq21f0⟩⟩
              case hq21f0 => first | assumption | omega
              case hq21m => omega
             ·have hrn : ¬ (rK (tieF (zL t)) k).c < 0 := by (rw [hj1] at hb254; have h9 : decide ((rK (tieF (zL t)) k).c < 0) = false := hb254; simpa using h9)
              refine ws_skip rfl ?_
              refine nm_blk ?_
              refine nm_sub [(2, _), (4, _), (15, _), (19, _), (20, _)] ⟨rfl, rfl, rfl, rfl, rfl, trivial⟩ ?_
              refine nm_thn ?_
              refine ws_region rfl ?_
              refine wlm 0 1 rfl rfl rfl rfl rfl rfl rfl ?_
              refine wlo 1 2 rfl rfl rfl (wo_run rfl rfl (run_add rfl rfl rfl (by first | omega | (simp only [lens]; omega))) ?_)
              refine wla 2 3 rfl rfl rfl rfl rfl rfl rfl ?_
              refine wl_end rfl ?_
              refine nm_lp ?_
              have hrc7 : (snJ k j) = (sn (k + 1)) := (by rw [show j = 1 by omega]; rfl)
              rw [hrc7] at S137; clear hrc7
              have hlp3 : lpK (tieF (zL t)) k = lpK (tieF (zL t)) (k + 1) := (by have := lpK_even hvd hk2; rw [this, if_neg (by omega)]; omega)
              rw [hlp3] at S137; clear hlp3
              intro ax_ hax_
              refine ⟨_, ?hq22m, ⟨k + 1, rfl, hax_.sub ⟨rfl, rfl, rfl, rfl, rfl, trivial⟩, S137.pick [1, 2, 3, 4, 5] [_, _, _, _, _] (by decide) ⟨rfl, rfl, rfl, rfl, rfl, trivial⟩, ?hq22f0⟩⟩
              case hq22f0 => first | assumption | omega
              case hq22m => omega
           ·have hj1 : j = 1 := ring_1 hj2 hg197
            refine wl_no (k := 2) (k' := 3) (d := 198) rfl rfl ⟨_, _, _, rfl, rfl, rfl, rfl⟩ rfl rfl ?_
            refine wl_no (k := 3) (k' := 4) (d := 199) rfl rfl ⟨_, _, _, rfl, rfl, rfl, rfl⟩ rfl rfl ?_
            refine wl_no (k := 4) (k' := 5) (d := 200) rfl rfl ⟨_, _, _, rfl, rfl, rfl, rfl⟩ rfl rfl ?_
            refine wl_no (k := 5) (k' := 6) (d := 201) rfl rfl ⟨_, _, _, rfl, rfl, rfl, rfl⟩ rfl rfl ?_
            refine wl_no (k := 6) (k' := 7) (d := 202) rfl rfl ⟨_, _, _, rfl, rfl, rfl, rfl⟩ rfl rfl ?_
            refine wl_no (k := 7) (k' := 8) (d := 203) rfl rfl ⟨_, _, _, rfl, rfl, rfl, rfl⟩ rfl rfl ?_
            refine wlo 8 9 rfl rfl rfl (wo_run rfl rfl (run_pickF rfl rfl rfl) ?_)
            refine wl_end rfl ?_
            refine nm_sub [(2, _), (4, _), (15, _), (19, _), (20, _), (21, _), (22, _), (204, _)] ⟨rfl, rfl, rfl, rfl, rfl, rfl, rfl, rfl, trivial⟩ ?_
            refine nm_thn ?_
            refine ws_condFN Walked_n144 rfl rfl rfl ?_
            refine ws_exit rfl rfl ?_
            refine nm_sub [(2, _), (4, _), (15, _), (19, _), (20, _), (21, _)] ⟨rfl, rfl, rfl, rfl, rfl, rfl, trivial⟩ ?_
            refine nm_thn ?_
            refine ws_seqN Walked_n181 Walked_n182 rfl rfl rfl ?_
            refine ws_region rfl ?_
            refine wlm 0 1 rfl rfl rfl rfl rfl rfl rfl ?_
            refine wl_end rfl ?_
            refine nm_sub [(2, _), (4, _), (15, _), (19, _), (20, _), (254, _)] ⟨rfl, rfl, rfl, rfl, rfl, rfl, trivial⟩ ?_
            refine nm_thn ?_
            refine ws_condN Walked_n183 Walked_n184 rfl rfl rfl rfl (fun hb254 => ?_) (fun hb254 => ?_)
            ·have hrn : (rK (tieF (zL t)) k).c < 0 := by (rw [hj1] at hb254; have h9 : decide ((rK (tieF (zL t)) k).c < 0) = true := hb254; simpa using h9)
             refine ws_region rfl ?_
             refine wlo 0 1 rfl rfl rfl (wo_run rfl rfl (run_fieldAddr rfl rfl Try.underlying41 rfl (ce3) (nf3)) ?_)
             refine wlo 1 2 rfl rfl rfl (wo_run rfl rfl (run_load1 rfl rfl Try.underlying3 rfl (S137.boxc (i := 3) rfl rfl)) ?_)
             refine wlo 2 3 rfl rfl rfl (wo_run rfl rfl (run_add rfl rfl rfl (by first | omega | (simp only [lens]; omega))) ?_)
             refine wlo 3 4 rfl rfl rfl (wo_run rfl rfl (run_fieldAddr rfl rfl Try.underlying41 rfl (ce3) (nf3)) ?_)
             refine wlo 4 5 rfl rfl rfl (wo_storeB (i := 3) (us := [_]) (l' := [_, _]) (H' := [_, _, _, _, _, _]) rfl rfl S137 rfl rfl rfl rfl sz3 rfl rfl rfl rfl ?_)
             intro w167 S174; clear S137
             refine wl_end rfl ?_
             refine nm_blk ?_
             refine nm_sub [(2, _), (4, _), (15, _), (19, _), (20, _)] ⟨rfl, rfl, rfl, rfl, rfl, trivial⟩ ?_
             refine nm_thn ?_
             refine ws_region rfl ?_
             refine wlm 0 1 rfl rfl rfl rfl rfl rfl rfl ?_
             refine wlo 1 2 rfl rfl rfl (wo_run rfl rfl (run_add rfl rfl rfl (by first | omega | (simp only [lens]; omega))) ?_)
             refine wla 2 3 rfl rfl rfl rfl rfl rfl rfl ?_
             refine wl_end rfl ?_
             refine nm_lp ?_
             have hrc8 : (snJ k j) = (sn (k + 1)) := (by rw [show j = 1 by omega]; rfl)
             rw [hrc8] at S174; clear hrc8
             have hlp4 : (lpK (tieF (zL t)) k) + 1 = lpK (tieF (zL t)) (k + 1) := (by have := lpK_even hvd hk2; rw [this, if_pos (by omega)])
             rw [hlp4] at S174; clear hlp4
             intro ax_ hax_
             refine ⟨_, ?hq23m, ⟨k + 1, rfl, hax_.sub ⟨rfl, rfl, rfl, rfl, rfl, trivial⟩, S174.pick [1, 2, 3, 4, 5] [_, _, _, _, _] (by decide) ⟨rfl, rfl, rfl, rfl, rfl, trivial⟩, ?hq23f0⟩⟩
             case hq23f0 => first | assumption | omega
             case hq23m => omega
            ·have hrn : ¬ (rK (tieF (zL t)) k).c < 0 := by (rw [hj1] at hb254; have h9 : decide ((rK (tieF (zL t)) k).c < 0) = false := hb254; simpa using h9)
             refine ws_skip rfl ?_
             refine nm_blk ?_
             refine nm_sub [(2, _), (4, _), (15, _), (19, _), (20, _)] ⟨rfl, rfl, rfl, rfl, rfl, trivial⟩ ?_
             refine nm_thn ?_
             refine ws_region rfl ?_
             refine wlm 0 1 rfl rfl rfl rfl rfl rfl rfl ?_
             refine wlo 1 2 rfl rfl rfl (wo_run rfl rfl (run_add rfl rfl rfl (by first | omega | (simp only [lens]; omega))) ?_)
             refine wla 2 3 rfl rfl rfl rfl rfl rfl rfl ?_
             refine wl_end rfl ?_
             refine nm_lp ?_
             have hrc9 : (snJ k j) = (sn (k + 1)) := (by rw [show j = 1 by omega]; rfl)
             rw [hrc9] at S137; clear hrc9
             have hlp5 : lpK (tieF (zL t)) k = lpK (tieF (zL t)) (k + 1) := (by have := lpK_even hvd hk2; rw [this, if_neg (by omega)]; omega)
             rw [hlp5] at S137; clear hlp5
             intro ax_ hax_
             refine ⟨_, ?hq24m, ⟨k + 1, rfl, hax_.sub ⟨rfl, rfl, rfl, rfl, rfl, trivial⟩, S137.pick [1, 2, 3, 4, 5] [_, _, _, _, _] (by decide) ⟨rfl, rfl, rfl, rfl, rfl, trivial⟩, ?hq24f0⟩⟩
             case hq24f0 => first | assumption | omega
             case hq24m => omega
        ·replace hb187 := of_decide_eq_false hb187
         refine ws_exit rfl rfl ?_
         refine nm_sub [(4, _), (15, _)] ⟨rfl, rfl, trivial⟩ ?_
         refine nm_thn ?_
         refine ws_seqN Walked_n185 Walked_n186 rfl rfl rfl ?_
         refine ws_region rfl ?_
         refine wlo 0 1 rfl rfl rfl (wo_run rfl rfl (run_loadN (us := [_, _]) rfl rfl Try.underlying41 rfl sz41 (S134.boxcs (i := 2) rfl ⟨rfl, rfl, trivial⟩)) ?_)
         refine wlo 1 2 rfl rfl rfl (wo_storeB (i := 3) (us := [_, _]) (l' := [_, _]) (H' := [_, _, _, _, _]) rfl rfl S134 rfl rfl rfl rfl sz41 rfl (ones_cons (S134.one (i := 1) rfl) (ones_cons rfl rfl)) rfl rfl ?_)
         intro w168 S175; clear S134
         refine wl_end rfl ?_
         refine nm_sub [(4, _)] ⟨rfl, trivial⟩ ?_
         refine nm_thn ?_
         obtain ⟨M104, hle112, S176, ⟨A2, c2, e1, hr1⟩⟩ := S175.pubrow (i := 1) (H' := [_, _, _, _, _]) rfl rfl (by show _ * 40 ≤ _; first | omega | (simp only [lens]; omega))
         clear S175; subst e1
         replace hta := hta.mono (Hp.un_mono hle112 S176.mx)
         replace htb := htb.mono (Hp.un_mono hle112 S176.mx)
         refine ws_ret hC [_] rfl rfl ⟨⟨_, rfl, loadVarN (us := [_, _]) Try.underlying41 rfl sz41 (S176.boxcs (i := 3) rfl ⟨rfl, rfl, trivial⟩)⟩, trivial⟩ ?_
         refine ⟨_, rfl, _, hle112, (S176.pick [] [] (by decide) trivial), ?_⟩
         have hk4 : k = 4 := by omega
         rw [← lpK_end, ← hk4]
         exact ⟨_, _, rfl, hr1⟩
end Go.Proofs.Ytkgofmloleicgaa
