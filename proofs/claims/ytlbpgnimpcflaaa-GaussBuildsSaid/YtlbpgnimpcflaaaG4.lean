/- Walks printed by eng.py. -/
import Derived.Test.YtlbpgnimpcflaaaG3
set_option linter.unusedSimpArgs false
set_option linter.unusedVariables false
namespace Go.Proofs.Ytlbpgnimpcflaaa
open Go.ChangeShapes Go.WideShapes Go.ChangeAt Go.RowKit
theorem bump_bT {cs : List I2} {v : Vi} (h : v.o = true) (hc : v.c.toNat < cs.length) : (cs.map I2.b).set v.c.toNat (wr (ga (cs.map I2.b) v.c.toNat + 1)) = (bump cs v).map I2.b ∧ cs.map I2.a = (bump cs v).map I2.a := by
  unfold bump
  rw [if_pos h, List.map_set, List.map_set, ga_map _ _ _ hc]
  refine ⟨rfl, ?_⟩
  refine ga_ext (by simp) fun i hi => ?_
  rw [ga_set _ _ _ _ (by simpa using hc)]
  split
  · rename_i e; subst e; rw [ga_map _ _ _ hc]
  · rfl
theorem bump_bF {cs : List I2} {v : Vi} (h : v.o = false) (hc : v.c.toNat < cs.length) : (cs.map I2.a).set v.c.toNat (wr (ga (cs.map I2.a) v.c.toNat + 1)) = (bump cs v).map I2.a ∧ cs.map I2.b = (bump cs v).map I2.b := by
  unfold bump
  rw [if_neg (by rw [h]; exact Bool.false_ne_true), List.map_set, List.map_set, ga_map _ _ _ hc]
  refine ⟨rfl, ?_⟩
  refine ga_ext (by simp) fun i hi => ?_
  rw [ga_set _ _ _ _ (by simpa using hc)]
  split
  · rename_i e; subst e; rw [ga_map _ _ _ hc]
  · rfl
theorem crsL_ga (plus : List Bool) (s : BA) {n c : Nat} (h : c < n) : ga (crsL plus s n) c = makeC (ga s.bl c).a (ga s.bl c).b (ga s.ab c).a (ga s.ab c).b (ga plus c) := by
  have e : ga (List.range n) c = c := by rw [ga_eq (by simpa using h)]; simp
  unfold crsL; rw [ga_map _ _ _ (by simpa using h), e]
theorem crsL_setB {plus : List Bool} {s : BA} {n c : Nat} (h : c < n) (hl : s.bl.length = n) (u v : Int) :
    (crsL plus s n).set c ⟨u, (ga (crsL plus s n) c).b, v, (ga (crsL plus s n) c).d, (ga (crsL plus s n) c).plus⟩ = crsL plus ⟨s.bl.set c ⟨u, v⟩, s.ab⟩ n := by
  refine ga_ext (by simp [crsL]) fun i hi => ?_
  rw [List.length_set, crsL_len] at hi
  by_cases e : c = i
  · subst e
    rw [ga_set _ _ _ _ (by rw [crsL_len]; exact h), if_pos rfl, crsL_ga plus s hi, crsL_ga plus ⟨s.bl.set c ⟨u, v⟩, s.ab⟩ hi]
    dsimp only
    rw [ga_set _ _ _ _ (by omega), if_pos rfl]
    unfold makeC; split <;> rfl
  · rw [ga_set _ _ _ _ (by rw [crsL_len]; exact h), if_neg e, crsL_ga plus s hi, crsL_ga plus ⟨s.bl.set c ⟨u, v⟩, s.ab⟩ hi]
    dsimp only
    rw [ga_set _ _ _ _ (by omega), if_neg e]
theorem crsL_setT {plus : List Bool} {s : BA} {n c : Nat} (h : c < n) (hl : s.ab.length = n) (hp : ga plus c = true) (u v : Int) :
    (crsL plus s n).set c ⟨(ga (crsL plus s n) c).a, v, (ga (crsL plus s n) c).c, u, (ga (crsL plus s n) c).plus⟩ = crsL plus ⟨s.bl, s.ab.set c ⟨u, v⟩⟩ n := by
  refine ga_ext (by simp [crsL]) fun i hi => ?_
  rw [List.length_set, crsL_len] at hi
  by_cases e : c = i
  · subst e
    rw [ga_set _ _ _ _ (by rw [crsL_len]; exact h), if_pos rfl, crsL_ga plus s hi, crsL_ga plus ⟨s.bl, s.ab.set c ⟨u, v⟩⟩ hi]
    dsimp only
    rw [ga_set _ _ _ _ (by omega), if_pos rfl]
    unfold makeC; rw [if_pos hp, if_pos hp]
  · rw [ga_set _ _ _ _ (by rw [crsL_len]; exact h), if_neg e, crsL_ga plus s hi, crsL_ga plus ⟨s.bl, s.ab.set c ⟨u, v⟩⟩ hi]
    dsimp only
    rw [ga_set _ _ _ _ (by omega), if_neg e]
theorem crsL_setF {plus : List Bool} {s : BA} {n c : Nat} (h : c < n) (hl : s.ab.length = n) (hp : ga plus c = false) (u v : Int) :
    (crsL plus s n).set c ⟨(ga (crsL plus s n) c).a, u, (ga (crsL plus s n) c).c, v, (ga (crsL plus s n) c).plus⟩ = crsL plus ⟨s.bl, s.ab.set c ⟨u, v⟩⟩ n := by
  refine ga_ext (by simp [crsL]) fun i hi => ?_
  rw [List.length_set, crsL_len] at hi
  by_cases e : c = i
  · subst e
    rw [ga_set _ _ _ _ (by rw [crsL_len]; exact h), if_pos rfl, crsL_ga plus s hi, crsL_ga plus ⟨s.bl, s.ab.set c ⟨u, v⟩⟩ hi]
    dsimp only
    rw [ga_set _ _ _ _ (by omega), if_pos rfl]
    unfold makeC; rw [if_neg (by rw [hp]; exact Bool.false_ne_true), if_neg (by rw [hp]; exact Bool.false_ne_true)]
  · rw [ga_set _ _ _ _ (by rw [crsL_len]; exact h), if_neg e, crsL_ga plus s hi, crsL_ga plus ⟨s.bl, s.ab.set c ⟨u, v⟩⟩ hi]
    dsimp only
    rw [ga_set _ _ _ _ (by omega), if_neg e]
theorem wr_next (x : Int) (j : Nat) : wr (wr (x + (j : Int)) + 1) = wr (x + ((j + 1 : Nat) : Int)) := by
  rw [wr_wr]; congr 1; omega
theorem wr_zero {x : Int} (h : -9223372036854775808 ≤ x ∧ x ≤ 9223372036854775807) : x = wr (x + ((0 : Nat) : Int)) := by
  rw [wr_id (by omega)]; omega
theorem arcV_last {x : Int} {len j : Nat} (h : j + 1 = len) (hx : -9223372036854775808 ≤ x ∧ x ≤ 9223372036854775807) : (⟨wr (x + (j : Int)), x⟩ : I2) = arcV x len j := by
  unfold arcV
  have e : ((j : Int) + 1) % (len : Int) = 0 := by rw [← h]; exact Int.emod_self
  rw [e]
  congr 1
  exact wr_zero hx
theorem arcV_next {x : Int} {len j : Nat} (h : j + 1 < len) : (⟨wr (x + (j : Int)), wr (wr (x + (j : Int)) + 1)⟩ : I2) = arcV x len j := by
  unfold arcV
  rw [Int.emod_eq_of_lt (by omega) (by omega), wr_wr]
  congr 2
  omega
theorem crsL_0 (plus : List Bool) {n k : Nat} (h : k < n) : makeC (ga (ba0 n).bl k).a (ga (ba0 n).bl k).b (ga (ba0 n).ab k).a (ga (ba0 n).ab k).b (ga plus k) = ⟨0, 0, 0, 0, ga plus k⟩ := by
  unfold ba0; rw [ga_rep _ _ _ h]; unfold makeC
  cases ga plus k <;> rfl
theorem draw_B {plus : List Bool} {p : List Vi} {x : Int} {s0 : BA} {sb sa : List I2} {j n : Nat} (hd : drawV p x s0 j = ⟨sb, sa⟩) (ho : (ga p j).o = false) (hc : (ga p j).c.toNat < n) (hl : sb.length = n) {v : Int} (hv : (⟨wr (x + (j : Int)), v⟩ : I2) = arcV x p.length j) :
    (crsL plus ⟨sb, sa⟩ n).set (ga p j).c.toNat ⟨wr (x + (j : Int)), (ga (crsL plus ⟨sb, sa⟩ n) (ga p j).c.toNat).b, v, (ga (crsL plus ⟨sb, sa⟩ n) (ga p j).c.toNat).d, (ga (crsL plus ⟨sb, sa⟩ n) (ga p j).c.toNat).plus⟩ = crsL plus ⟨(drawV p x s0 (j + 1)).bl, (drawV p x s0 (j + 1)).ab⟩ n := by
  rw [drawV_succ, hd, if_neg (by rw [ho]; exact Bool.false_ne_true), ← hv]
  exact crsL_setB (s := ⟨sb, sa⟩) hc hl _ _
theorem draw_T {plus : List Bool} {p : List Vi} {x : Int} {s0 : BA} {sb sa : List I2} {j n : Nat} (hd : drawV p x s0 j = ⟨sb, sa⟩) (ho : (ga p j).o = true) (hp : ga plus (ga p j).c.toNat = true) (hc : (ga p j).c.toNat < n) (hl : sa.length = n) {v : Int} (hv : (⟨wr (x + (j : Int)), v⟩ : I2) = arcV x p.length j) :
    (crsL plus ⟨sb, sa⟩ n).set (ga p j).c.toNat ⟨(ga (crsL plus ⟨sb, sa⟩ n) (ga p j).c.toNat).a, v, (ga (crsL plus ⟨sb, sa⟩ n) (ga p j).c.toNat).c, wr (x + (j : Int)), (ga (crsL plus ⟨sb, sa⟩ n) (ga p j).c.toNat).plus⟩ = crsL plus ⟨(drawV p x s0 (j + 1)).bl, (drawV p x s0 (j + 1)).ab⟩ n := by
  rw [drawV_succ, hd, if_pos ho, ← hv]
  exact crsL_setT (s := ⟨sb, sa⟩) hc hl hp _ _
theorem draw_F {plus : List Bool} {p : List Vi} {x : Int} {s0 : BA} {sb sa : List I2} {j n : Nat} (hd : drawV p x s0 j = ⟨sb, sa⟩) (ho : (ga p j).o = true) (hp : ga plus (ga p j).c.toNat = false) (hc : (ga p j).c.toNat < n) (hl : sa.length = n) {v : Int} (hv : (⟨wr (x + (j : Int)), v⟩ : I2) = arcV x p.length j) :
    (crsL plus ⟨sb, sa⟩ n).set (ga p j).c.toNat ⟨(ga (crsL plus ⟨sb, sa⟩ n) (ga p j).c.toNat).a, wr (x + (j : Int)), (ga (crsL plus ⟨sb, sa⟩ n) (ga p j).c.toNat).c, v, (ga (crsL plus ⟨sb, sa⟩ n) (ga p j).c.toNat).plus⟩ = crsL plus ⟨(drawV p x s0 (j + 1)).bl, (drawV p x s0 (j + 1)).ab⟩ n := by
  rw [drawV_succ, hd, if_pos ho, ← hv]
  exact crsL_setF (s := ⟨sb, sa⟩) hc hl hp _ _
theorem drawV_len (p : List Vi) (x : Int) (s : BA) (k : Nat) : (drawV p x s k).bl.length = s.bl.length ∧ (drawV p x s k).ab.length = s.ab.length := by
  induction k with
  | zero => exact ⟨rfl, rfl⟩
  | succ k ih => rw [drawV_succ]; split <;> simp [ih]

noncomputable def BuildOf_n0 : Code := Try.f13.body.getD .skip
noncomputable def BuildOf_n1 : Code := cL BuildOf_n0
noncomputable def BuildOf_n2 : Code := cR BuildOf_n0
noncomputable def BuildOf_n3 : Code := cL BuildOf_n2
noncomputable def BuildOf_n4 : Code := cR BuildOf_n2
noncomputable def BuildOf_n5 : Code := cL BuildOf_n4
noncomputable def BuildOf_n6 : Code := cR BuildOf_n4
noncomputable def BuildOf_n7 : Code := cL BuildOf_n5
noncomputable def BuildOf_n8 : Code := cR BuildOf_n5
noncomputable def BuildOf_n9 : Code := cL BuildOf_n8
noncomputable def BuildOf_n10 : Code := cR BuildOf_n8
noncomputable def BuildOf_n11 : Code := cL BuildOf_n9
noncomputable def BuildOf_n12 : Code := cR BuildOf_n9
noncomputable def BuildOf_n13 : Code := cL BuildOf_n6
noncomputable def BuildOf_n14 : Code := cR BuildOf_n6
noncomputable def BuildOf_n15 : Code := cL BuildOf_n14
noncomputable def BuildOf_n16 : Code := cR BuildOf_n14
noncomputable def BuildOf_n17 : Code := cL BuildOf_n16
noncomputable def BuildOf_n18 : Code := cR BuildOf_n16
noncomputable def BuildOf_n19 : Code := cL BuildOf_n17
noncomputable def BuildOf_n20 : Code := cR BuildOf_n17
noncomputable def BuildOf_n21 : Code := cL BuildOf_n20
noncomputable def BuildOf_n22 : Code := cL BuildOf_n21
noncomputable def BuildOf_n23 : Code := cL BuildOf_n22
noncomputable def BuildOf_n24 : Code := cR BuildOf_n22
noncomputable def BuildOf_n25 : Code := cL BuildOf_n23
noncomputable def BuildOf_n26 : Code := cR BuildOf_n23
noncomputable def BuildOf_n27 : Code := cL BuildOf_n26
noncomputable def BuildOf_n28 : Code := cR BuildOf_n26
noncomputable def BuildOf_n29 : Code := cL BuildOf_n24
noncomputable def BuildOf_n30 : Code := cR BuildOf_n24
noncomputable def BuildOf_n31 : Code := cL BuildOf_n29
noncomputable def BuildOf_n32 : Code := cL BuildOf_n31
noncomputable def BuildOf_n33 : Code := cR BuildOf_n31
noncomputable def BuildOf_n34 : Code := cL BuildOf_n33
noncomputable def BuildOf_n35 : Code := cR BuildOf_n33
noncomputable def BuildOf_n36 : Code := cL BuildOf_n35
noncomputable def BuildOf_n37 : Code := cL BuildOf_n36
noncomputable def BuildOf_n38 : Code := cL BuildOf_n37
noncomputable def BuildOf_n39 : Code := cR BuildOf_n37
noncomputable def BuildOf_n40 : Code := cL BuildOf_n38
noncomputable def BuildOf_n41 : Code := cR BuildOf_n38
noncomputable def BuildOf_n42 : Code := cL BuildOf_n41
noncomputable def BuildOf_n43 : Code := cR BuildOf_n41
noncomputable def BuildOf_n44 : Code := cL BuildOf_n39
noncomputable def BuildOf_n45 : Code := cR BuildOf_n39
noncomputable def BuildOf_n46 : Code := cL BuildOf_n44
noncomputable def BuildOf_n47 : Code := cL BuildOf_n46
noncomputable def BuildOf_n48 : Code := cR BuildOf_n46
noncomputable def BuildOf_n49 : Code := cL BuildOf_n48
noncomputable def BuildOf_n50 : Code := cR BuildOf_n48
noncomputable def BuildOf_n51 : Code := cL BuildOf_n49
noncomputable def BuildOf_n52 : Code := cR BuildOf_n49
noncomputable def BuildOf_n53 : Code := cL BuildOf_n52
noncomputable def BuildOf_n54 : Code := cR BuildOf_n52
noncomputable def BuildOf_n55 : Code := cL BuildOf_n53
noncomputable def BuildOf_n56 : Code := cR BuildOf_n53
noncomputable def BuildOf_n57 : Code := cL BuildOf_n50
noncomputable def BuildOf_n58 : Code := cR BuildOf_n50
noncomputable def BuildOf_n59 : Code := cL BuildOf_n58
noncomputable def BuildOf_n60 : Code := cR BuildOf_n58
noncomputable def BuildOf_n61 : Code := cL BuildOf_n18
noncomputable def BuildOf_n62 : Code := cR BuildOf_n18
noncomputable def BuildOf_n63 : Code := cL BuildOf_n61
noncomputable def BuildOf_n64 : Code := cR BuildOf_n61
noncomputable def BuildOf_n65 : Code := cL BuildOf_n64
noncomputable def BuildOf_n66 : Code := cL BuildOf_n65
noncomputable def BuildOf_n67 : Code := cL BuildOf_n66
noncomputable def BuildOf_n68 : Code := cR BuildOf_n66
noncomputable def BuildOf_n69 : Code := cL BuildOf_n67
noncomputable def BuildOf_n70 : Code := cR BuildOf_n67
noncomputable def BuildOf_n71 : Code := cL BuildOf_n70
noncomputable def BuildOf_n72 : Code := cR BuildOf_n70
noncomputable def BuildOf_n73 : Code := cL BuildOf_n68
noncomputable def BuildOf_n74 : Code := cR BuildOf_n68
noncomputable def BuildOf_n75 : Code := cL BuildOf_n73
noncomputable def BuildOf_n76 : Code := cL BuildOf_n75
noncomputable def BuildOf_n77 : Code := cR BuildOf_n75
noncomputable def BuildOf_n78 : Code := cL BuildOf_n77
noncomputable def BuildOf_n79 : Code := cR BuildOf_n77
noncomputable def BuildOf_n80 : Code := cL BuildOf_n78
noncomputable def BuildOf_n81 : Code := cR BuildOf_n78
noncomputable def BuildOf_n82 : Code := cL BuildOf_n62
noncomputable def BuildOf_n83 : Code := cR BuildOf_n62
noncomputable def BuildOf_n84 : Code := cL BuildOf_n82
noncomputable def BuildOf_n85 : Code := cR BuildOf_n82
noncomputable def BuildOf_n86 : Code := cL BuildOf_n85
noncomputable def BuildOf_n87 : Code := cR BuildOf_n85
noncomputable def BuildOf_n88 : Code := cL BuildOf_n86
noncomputable def BuildOf_n89 : Code := cR BuildOf_n86
noncomputable def BuildOf_n90 : Code := cL BuildOf_n83
noncomputable def BuildOf_n91 : Code := cR BuildOf_n83
noncomputable def BuildOf_n92 : Code := cL BuildOf_n91
noncomputable def BuildOf_n93 : Code := cR BuildOf_n91
noncomputable def BuildOf_n94 : Code := cL BuildOf_n92
noncomputable def BuildOf_n95 : Code := cR BuildOf_n92
noncomputable def BuildOf_n96 : Code := cL BuildOf_n95
noncomputable def BuildOf_n97 : Code := cL BuildOf_n96
noncomputable def BuildOf_n98 : Code := cL BuildOf_n97
noncomputable def BuildOf_n99 : Code := cR BuildOf_n97
noncomputable def BuildOf_n100 : Code := cL BuildOf_n98
noncomputable def BuildOf_n101 : Code := cR BuildOf_n98
noncomputable def BuildOf_n102 : Code := cL BuildOf_n101
noncomputable def BuildOf_n103 : Code := cR BuildOf_n101
noncomputable def BuildOf_n104 : Code := cL BuildOf_n99
noncomputable def BuildOf_n105 : Code := cR BuildOf_n99
noncomputable def BuildOf_n106 : Code := cL BuildOf_n104
noncomputable def BuildOf_n107 : Code := cL BuildOf_n93
noncomputable def BuildOf_n108 : Code := cR BuildOf_n93
noncomputable def BuildOf_n109 : Code := cL BuildOf_n108
noncomputable def BuildOf_n110 : Code := cR BuildOf_n108
noncomputable def BuildOf_n111 : Code := cL BuildOf_n109
noncomputable def BuildOf_n112 : Code := cR BuildOf_n109
noncomputable def BuildOf_n113 : Code := cL BuildOf_n112
noncomputable def BuildOf_n114 : Code := cL BuildOf_n113
noncomputable def BuildOf_n115 : Code := cL BuildOf_n114
noncomputable def BuildOf_n116 : Code := cR BuildOf_n114
noncomputable def BuildOf_n117 : Code := cL BuildOf_n115
noncomputable def BuildOf_n118 : Code := cR BuildOf_n115
noncomputable def BuildOf_n119 : Code := cL BuildOf_n118
noncomputable def BuildOf_n120 : Code := cR BuildOf_n118
noncomputable def BuildOf_n121 : Code := cL BuildOf_n116
noncomputable def BuildOf_n122 : Code := cR BuildOf_n116
noncomputable def BuildOf_n123 : Code := cL BuildOf_n121
noncomputable def BuildOf_n124 : Code := cL BuildOf_n123
noncomputable def BuildOf_n125 : Code := cR BuildOf_n123
noncomputable def BuildOf_n126 : Code := cL BuildOf_n125
noncomputable def BuildOf_n127 : Code := cR BuildOf_n125
noncomputable def BuildOf_n128 : Code := cL BuildOf_n127
noncomputable def BuildOf_n129 : Code := cL BuildOf_n128
noncomputable def BuildOf_n130 : Code := cL BuildOf_n129
noncomputable def BuildOf_n131 : Code := cR BuildOf_n129
noncomputable def BuildOf_n132 : Code := cL BuildOf_n130
noncomputable def BuildOf_n133 : Code := cR BuildOf_n130
noncomputable def BuildOf_n134 : Code := cL BuildOf_n133
noncomputable def BuildOf_n135 : Code := cR BuildOf_n133
noncomputable def BuildOf_n136 : Code := cL BuildOf_n131
noncomputable def BuildOf_n137 : Code := cR BuildOf_n131
noncomputable def BuildOf_n138 : Code := cL BuildOf_n136
noncomputable def BuildOf_n139 : Code := cL BuildOf_n138
noncomputable def BuildOf_n140 : Code := cR BuildOf_n138
noncomputable def BuildOf_n141 : Code := cL BuildOf_n140
noncomputable def BuildOf_n142 : Code := cR BuildOf_n140
noncomputable def BuildOf_n143 : Code := cL BuildOf_n141
noncomputable def BuildOf_n144 : Code := cR BuildOf_n141
noncomputable def BuildOf_n145 : Code := cL BuildOf_n144
noncomputable def BuildOf_n146 : Code := cR BuildOf_n144
noncomputable def BuildOf_n147 : Code := cL BuildOf_n142
noncomputable def BuildOf_n148 : Code := cR BuildOf_n142
noncomputable def BuildOf_n149 : Code := cL BuildOf_n148
noncomputable def BuildOf_n150 : Code := cR BuildOf_n148
noncomputable def BuildOf_n151 : Code := cL BuildOf_n150
noncomputable def BuildOf_n152 : Code := cR BuildOf_n150
noncomputable def BuildOf_n153 : Code := cL BuildOf_n151
noncomputable def BuildOf_n154 : Code := cR BuildOf_n151
noncomputable def BuildOf_n155 : Code := cL BuildOf_n154
noncomputable def BuildOf_n156 : Code := cR BuildOf_n154
noncomputable def BuildOf_n157 : Code := cL BuildOf_n152
noncomputable def BuildOf_n158 : Code := cR BuildOf_n152
noncomputable def BuildOf_n159 : Code := cL BuildOf_n156
noncomputable def BuildOf_n160 : Code := cR BuildOf_n156
noncomputable def BuildOf_n161 : Code := cL BuildOf_n160
noncomputable def BuildOf_n162 : Code := cR BuildOf_n160
noncomputable def BuildOf_n163 : Code := cL BuildOf_n110
noncomputable def BuildOf_n164 : Code := cR BuildOf_n110
set_option maxHeartbeats 2000000 in
set_option maxRecDepth 10000 in
theorem BuildOf_t {w : World} {M : Hp} {X : Fr} (l : List (List Vi)) {lA : Option Addr} {lc : Nat} {lv : List SlV} (plus : List Bool) {plusA : Option Addr} {plusc : Nat} (loops : Int) (hl : RdA (cdV 24) (M.un X.h) lA lc lv) (hdl : Rd2 cdVi (M.un X.h) lv l) (hplus : RdA cdBool (M.un X.h) plusA plusc plus) (hlw : -9223372036854775808 ≤ loops ∧ loops ≤ 9223372036854775807) (S : SH w M X []) : Ct Try.prog 13 [.slice lA lv.length lc, .slice plusA plus.length plusc, .int .i64 loops] w M X (DgE (buildR l plus loops)) := by
  unfold Ct
  have rmhl : lv.length * 24 ≤ 140737488355328 := hl.room
  have rmhplus : plus.length * 1 ≤ 140737488355328 := hplus.room
  have hlv0 := hdl.1
  refine calls_in (b := BuildOf_n0) Try.func13 rfl Try.ntmps13 rfl (fun C hC => ?_)
  refine ws_sub [(0, _), (1, _), (2, _)] ⟨rfl, rfl, rfl, trivial⟩ ?_
  refine ws_seqN BuildOf_n1 BuildOf_n2 rfl rfl rfl ?_
  refine ws_region rfl ?_
  refine wl_op (k := 0) (k' := 1) rfl rfl rfl (wo_alloc (l := [_, _]) rfl rfl rfl zr27 rfl S ?_)
  intro gb1 w1 S1; clear S
  refine wl_op (k := 1) (k' := 2) rfl rfl rfl (wo_run rfl rfl (run_assign rfl rfl) ?_)
  refine wl_end rfl ?_
  refine nm_sub [(0, _), (1, _), (2, _), (6, _)] ⟨rfl, rfl, rfl, rfl, trivial⟩ ?_
  refine nm_thn ?_
  refine ws_seqN BuildOf_n3 BuildOf_n4 rfl rfl rfl ?_
  refine ws_region rfl ?_
  refine wl_op (k := 0) (k' := 1) rfl rfl rfl (wo_run rfl rfl (run_move rfl rfl) ?_)
  refine wl_op (k := 1) (k' := 2) rfl rfl rfl (wo_run rfl rfl (run_len rfl rfl rfl rfl rfl rfl Try.underlying23) ?_)
  refine wl_op (k := 2) (k' := 3) rfl rfl rfl (wo_run rfl rfl (run_assign rfl rfl) ?_)
  refine wl_end rfl ?_
  refine nm_sub [(0, _), (1, _), (2, _), (6, _), (8, _)] ⟨rfl, rfl, rfl, rfl, rfl, trivial⟩ ?_
  refine nm_thn ?_
  refine ws_seqN BuildOf_n5 BuildOf_n6 rfl rfl rfl ?_
  refine ws_seqN BuildOf_n7 BuildOf_n8 rfl rfl rfl ?_
  refine ws_region rfl ?_
  refine wl_op (k := 0) (k' := 1) rfl rfl rfl (wo_run rfl rfl (run_move rfl rfl) ?_)
  refine wl_op (k := 1) (k' := 2) rfl rfl rfl (wo_run rfl rfl (run_gtr rfl rfl rfl) ?_)
  refine wl_op (k := 2) (k' := 3) rfl rfl rfl (wo_run rfl rfl (run_move rfl rfl) ?_)
  refine wl_split (t := 29) rfl (fun hg29 => ?_) (fun hg29 => ?_)
  · have hg29 := of_decide_eq_true hg29
    refine wl_no (k := 3) (k' := 4) (d := 30) rfl rfl ⟨_, _, _, rfl, rfl, rfl, rfl⟩ rfl rfl ?_
    refine wl_no (k := 4) (k' := 5) (d := 31) rfl rfl ⟨_, _, _, rfl, rfl, rfl, rfl⟩ rfl rfl ?_
    refine wl_op (k := 5) (k' := 6) rfl rfl rfl (wo_run rfl rfl (run_pickT rfl rfl rfl) ?_)
    refine wl_op (k := 6) (k' := 7) rfl rfl rfl (wo_run rfl rfl (run_move rfl rfl) ?_)
    refine wl_no (k := 7) (k' := 8) (d := 34) rfl rfl ⟨_, _, _, rfl, rfl, rfl, rfl⟩ rfl rfl ?_
    refine wl_no (k := 8) (k' := 9) (d := 35) rfl rfl ⟨_, _, _, rfl, rfl, rfl, rfl⟩ rfl rfl ?_
    refine wl_op (k := 9) (k' := 10) rfl rfl rfl (wo_run rfl rfl (run_pickT rfl rfl rfl) ?_)
    refine wl_end rfl ?_
    refine nm_sub [(0, _), (1, _), (2, _), (6, _), (8, _), (36, _)] ⟨rfl, rfl, rfl, rfl, rfl, rfl, trivial⟩ ?_
    refine nm_thn ?_
    refine ws_condTN BuildOf_n9 rfl rfl rfl ?_
    refine ws_seqN BuildOf_n11 BuildOf_n12 rfl rfl rfl ?_
    refine ws_region rfl ?_
    refine wl_op (k := 0) (k' := 1) rfl rfl rfl (wo_run rfl rfl (run_build (l := [_, _]) rfl rfl st27 rfl rfl) ?_)
    refine wl_op (k := 1) (k' := 2) rfl rfl rfl (wo_storeB (i := 0) (us := [_, _]) (l' := [_, _]) (H' := [_]) rfl rfl S1 rfl rfl rfl rfl sz27 rfl rfl rfl rfl ?_)
    intro w2 S2; clear S1
    refine wl_op (k := 2) (k' := 3) rfl rfl rfl (wo_run rfl rfl (run_assign rfl rfl) ?_)
    refine wl_end rfl ?_
    refine nm_sub [(6, _), (7, _)] ⟨rfl, rfl, trivial⟩ ?_
    refine nm_thn ?_
    refine ws_ret hC [_, _] rfl rfl ⟨⟨_, rfl, loadVarN (us := [_, _]) Try.underlying27 rfl sz27 (S2.boxcs (i := 0) rfl ⟨rfl, rfl, trivial⟩)⟩, rfl, trivial⟩ ?_
    refine ⟨_, rfl, _, Hp.le_refl _, (S2.pick [] [] (by decide) trivial), ?_⟩
    have hE : buildE plus.length l loops = 2 := (by have hlv := hdl.1; unfold buildE; first | rw [if_pos (by omega)] | rw [if_pos (by simp_all; omega)])
    unfold buildR
    rw [if_pos (by rw [hE]; decide), hE]
    exact ⟨none, 0, rfl, RdA.nil_⟩
  · have hg29 := of_decide_eq_false hg29
    refine wl_opG (k := 3) (k' := 4) rfl rfl ⟨_, _, _, rfl, rfl, rfl, rfl⟩ rfl (wo_run rfl rfl (run_move rfl rfl) ?_)
    refine wl_opG (k := 4) (k' := 5) rfl rfl ⟨_, _, _, rfl, rfl, rfl, rfl⟩ rfl (wo_run rfl rfl (run_lss rfl rfl rfl) ?_)
    refine wl_op (k := 5) (k' := 6) rfl rfl rfl (wo_run rfl rfl (run_pickF rfl rfl rfl) ?_)
    refine wl_op (k := 6) (k' := 7) rfl rfl rfl (wo_run rfl rfl (run_move rfl rfl) ?_)
    refine wl_split (t := 33) rfl (fun hg33 => ?_) (fun hg33 => ?_)
    · have hg33 := of_decide_eq_true hg33
      refine wl_no (k := 7) (k' := 8) (d := 34) rfl rfl ⟨_, _, _, rfl, rfl, rfl, rfl⟩ rfl rfl ?_
      refine wl_no (k := 8) (k' := 9) (d := 35) rfl rfl ⟨_, _, _, rfl, rfl, rfl, rfl⟩ rfl rfl ?_
      refine wl_op (k := 9) (k' := 10) rfl rfl rfl (wo_run rfl rfl (run_pickT rfl rfl rfl) ?_)
      refine wl_end rfl ?_
      refine nm_sub [(0, _), (1, _), (2, _), (6, _), (8, _), (36, _)] ⟨rfl, rfl, rfl, rfl, rfl, rfl, trivial⟩ ?_
      refine nm_thn ?_
      refine ws_condTN BuildOf_n9 rfl rfl rfl ?_
      refine ws_seqN BuildOf_n11 BuildOf_n12 rfl rfl rfl ?_
      refine ws_region rfl ?_
      refine wl_op (k := 0) (k' := 1) rfl rfl rfl (wo_run rfl rfl (run_build (l := [_, _]) rfl rfl st27 rfl rfl) ?_)
      refine wl_op (k := 1) (k' := 2) rfl rfl rfl (wo_storeB (i := 0) (us := [_, _]) (l' := [_, _]) (H' := [_]) rfl rfl S1 rfl rfl rfl rfl sz27 rfl rfl rfl rfl ?_)
      intro w3 S3; clear S1
      refine wl_op (k := 2) (k' := 3) rfl rfl rfl (wo_run rfl rfl (run_assign rfl rfl) ?_)
      refine wl_end rfl ?_
      refine nm_sub [(6, _), (7, _)] ⟨rfl, rfl, trivial⟩ ?_
      refine nm_thn ?_
      refine ws_ret hC [_, _] rfl rfl ⟨⟨_, rfl, loadVarN (us := [_, _]) Try.underlying27 rfl sz27 (S3.boxcs (i := 0) rfl ⟨rfl, rfl, trivial⟩)⟩, rfl, trivial⟩ ?_
      refine ⟨_, rfl, _, Hp.le_refl _, (S3.pick [] [] (by decide) trivial), ?_⟩
      have hE : buildE plus.length l loops = 2 := (by have hlv := hdl.1; unfold buildE; first | rw [if_pos (by omega)] | rw [if_pos (by simp_all; omega)])
      unfold buildR
      rw [if_pos (by rw [hE]; decide), hE]
      exact ⟨none, 0, rfl, RdA.nil_⟩
    · have hg33 := of_decide_eq_false hg33
      refine wl_opG (k := 7) (k' := 8) rfl rfl ⟨_, _, _, rfl, rfl, rfl, rfl⟩ rfl (wo_run rfl rfl (run_move rfl rfl) ?_)
      refine wl_opG (k := 8) (k' := 9) rfl rfl ⟨_, _, _, rfl, rfl, rfl, rfl⟩ rfl (wo_run rfl rfl (run_gtr rfl rfl rfl) ?_)
      refine wl_op (k := 9) (k' := 10) rfl rfl rfl (wo_run rfl rfl (run_pickF rfl rfl rfl) ?_)
      refine wl_end rfl ?_
      refine nm_sub [(0, _), (1, _), (2, _), (6, _), (8, _), (36, _)] ⟨rfl, rfl, rfl, rfl, rfl, rfl, trivial⟩ ?_
      refine nm_thn ?_
      refine ws_condN BuildOf_n9 BuildOf_n10 rfl rfl rfl rfl (fun hb36 => ?_) (fun hb36 => ?_)
      · have hb36 := of_decide_eq_true hb36
        refine ws_seqN BuildOf_n11 BuildOf_n12 rfl rfl rfl ?_
        refine ws_region rfl ?_
        refine wl_op (k := 0) (k' := 1) rfl rfl rfl (wo_run rfl rfl (run_build (l := [_, _]) rfl rfl st27 rfl rfl) ?_)
        refine wl_op (k := 1) (k' := 2) rfl rfl rfl (wo_storeB (i := 0) (us := [_, _]) (l' := [_, _]) (H' := [_]) rfl rfl S1 rfl rfl rfl rfl sz27 rfl rfl rfl rfl ?_)
        intro w4 S4; clear S1
        refine wl_op (k := 2) (k' := 3) rfl rfl rfl (wo_run rfl rfl (run_assign rfl rfl) ?_)
        refine wl_end rfl ?_
        refine nm_sub [(6, _), (7, _)] ⟨rfl, rfl, trivial⟩ ?_
        refine nm_thn ?_
        refine ws_ret hC [_, _] rfl rfl ⟨⟨_, rfl, loadVarN (us := [_, _]) Try.underlying27 rfl sz27 (S4.boxcs (i := 0) rfl ⟨rfl, rfl, trivial⟩)⟩, rfl, trivial⟩ ?_
        refine ⟨_, rfl, _, Hp.le_refl _, (S4.pick [] [] (by decide) trivial), ?_⟩
        have hE : buildE plus.length l loops = 2 := (by have hlv := hdl.1; unfold buildE; first | rw [if_pos (by omega)] | rw [if_pos (by simp_all; omega)])
        unfold buildR
        rw [if_pos (by rw [hE]; decide), hE]
        exact ⟨none, 0, rfl, RdA.nil_⟩
      · have hb36 := of_decide_eq_false hb36
        refine ws_skip rfl ?_
        refine nm_sub [(0, _), (1, _), (2, _), (6, _), (8, _)] ⟨rfl, rfl, rfl, rfl, rfl, trivial⟩ ?_
        refine nm_thn ?_
        refine ws_seqN BuildOf_n13 BuildOf_n14 rfl rfl rfl ?_
        refine ws_cut (fun ax_ wx_ => ∃ (vab : Value) (vbl : Value) (M1 : Hp), M.le M1 ∧ Env 215 [(0, .slice lA lv.length lc), (1, .slice plusA plus.length plusc), (2, .int .i64 loops), (6, .pointer (some ⟨gb1, 0, none⟩)), (8, .int .i64 (plus.length : Int)), (9, vab), (10, vbl)] ax_ ∧ SH wx_ M1 X [Rs.row cdInt vab (List.replicate plus.length cdInt.z), Rs.row cdInt vbl (List.replicate plus.length cdInt.z), Rs.box gb1 27 [.slice none 0 0, .int .i64 0]]) ?_ ?_
        · refine ws_draw rfl (by kernel_rfl) S1 6 rfl ?_
          clear S1
          refine wa_takeP (i := 0) (d := 38) 5 rfl (by kernel_rfl) (by kernel_rfl) (by kernel_rfl) rfl rfl rfl (fun w6 => run_move rfl rfl) ?_
          refine wa_takeP (i := 2) (d := 40) 4 rfl (by kernel_rfl) (by kernel_rfl) (by kernel_rfl) rfl rfl rfl (fun w8 => run_move rfl rfl) ?_
          refine wa_two (i := 1) (j := 3) 3 rfl rfl (by kernel_rfl) rfl rfl rfl rfl (fun w11 S11 => ?_) (fun w11 S11 => ?_)
          · refine (wo_make (C := cdInt) plus.length rfl rfl rfl rfl rfl sl44 (by first | rfl | omega) (by show _ * 8 ≤ _; first | omega | (simp only [List.length_set, List.length_append, List.length_replicate, List.length_singleton, List.length_cons, List.length_nil]; omega)) S11 ?_)
            intro vr1 w12 S12; clear S11
            refine LeftW.grow [_] (Hp.le_refl _) S12 ?_; clear S12
            change WA _ _ _ _ _ _ _ _ _ _ _ _ [_, _]
            refine wa_takeP (i := 4) (d := 9) 2 rfl (by kernel_rfl) (by kernel_rfl) (by kernel_rfl) rfl rfl rfl (fun w14 => run_assign rfl rfl) ?_
            refine wa_only (i := 3) 1 rfl (by kernel_rfl) rfl rfl (fun w16 S16 => ?_)
            refine (wo_make (C := cdInt) plus.length rfl rfl rfl rfl rfl sl44 (by first | rfl | omega) (by show _ * 8 ≤ _; first | omega | (simp only [List.length_set, List.length_append, List.length_replicate, List.length_singleton, List.length_cons, List.length_nil]; omega)) S16 ?_)
            intro vr2 w17 S17; clear S16
            refine LeftW.grow [_, _] (Hp.le_refl _) S17 ?_; clear S17
            change WA _ _ _ _ _ _ _ _ _ _ _ _ [_, _, _]
            refine wa_takeP (i := 5) (d := 10) 0 rfl (by kernel_rfl) (by kernel_rfl) (by kernel_rfl) rfl rfl rfl (fun w18 => run_assign rfl rfl) ?_
            refine wa_end (by kernel_rfl) (fun w19 S19 => ?_)
            refine nm_lp ?_
            intro ax_ hax_
            refine ⟨_, _, _, (Hp.le_refl _), hax_.sub ⟨rfl, rfl, rfl, rfl, rfl, rfl, rfl, trivial⟩, S19.pick [1, 0, 2] [_, _, _] (by decide) ⟨rfl, rfl, rfl, trivial⟩⟩
          · refine (wo_make (C := cdInt) plus.length rfl rfl rfl rfl rfl sl44 (by first | rfl | omega) (by show _ * 8 ≤ _; first | omega | (simp only [List.length_set, List.length_append, List.length_replicate, List.length_singleton, List.length_cons, List.length_nil]; omega)) S11 ?_)
            intro vr3 w20 S20; clear S11
            refine LeftW.grow [_] (Hp.le_refl _) S20 ?_; clear S20
            change WA _ _ _ _ _ _ _ _ _ _ _ _ [_, _]
            refine wa_only (i := 1) 2 rfl (by kernel_rfl) rfl rfl (fun w22 S22 => ?_)
            refine (wo_make (C := cdInt) plus.length rfl rfl rfl rfl rfl sl44 (by first | rfl | omega) (by show _ * 8 ≤ _; first | omega | (simp only [List.length_set, List.length_append, List.length_replicate, List.length_singleton, List.length_cons, List.length_nil]; omega)) S22 ?_)
            intro vr4 w23 S23; clear S22
            refine LeftW.grow [_, _] (Hp.le_refl _) S23 ?_; clear S23
            change WA _ _ _ _ _ _ _ _ _ _ _ _ [_, _, _]
            refine wa_takeP (i := 4) (d := 9) 1 rfl (by kernel_rfl) (by kernel_rfl) (by kernel_rfl) rfl rfl rfl (fun w24 => run_assign rfl rfl) ?_
            refine wa_takeP (i := 5) (d := 10) 0 rfl (by kernel_rfl) (by kernel_rfl) (by kernel_rfl) rfl rfl rfl (fun w25 => run_assign rfl rfl) ?_
            refine wa_end (by kernel_rfl) (fun w26 S26 => ?_)
            refine nm_lp ?_
            intro ax_ hax_
            refine ⟨_, _, _, (Hp.le_refl _), hax_.sub ⟨rfl, rfl, rfl, rfl, rfl, rfl, rfl, trivial⟩, S26.pick [0, 1, 2] [_, _, _] (by decide) ⟨rfl, rfl, rfl, trivial⟩⟩
        · rintro a1 w5 ⟨vab, vbl, M1, hle1, he1, S5⟩
          clear S1
          refine nm_in he1 ?_
          clear he1 a1
          replace hl := hl.mono (Hp.un_mono hle1 S5.mx)
          replace hdl := hdl.mono (Hp.un_mono hle1 S5.mx)
          replace hplus := hplus.mono (Hp.un_mono hle1 S5.mx)
          refine nm_thn ?_
          refine ws_seqN BuildOf_n15 BuildOf_n16 rfl rfl rfl ?_
          refine ws_cut (fun ax_ wx_ => ∃ (em0 : Bool) (M14 : Hp), M1.le M14 ∧ Env 215 [(0, .slice lA lv.length lc), (1, .slice plusA plus.length plusc), (2, .int .i64 loops), (6, .pointer (some ⟨gb1, 0, none⟩)), (8, .int .i64 (plus.length : Int)), (9, vab), (10, vbl), (11, .bool em0)] ax_ ∧ SH wx_ M14 X [Rs.row cdInt vab (List.replicate plus.length cdInt.z), Rs.row cdInt vbl (List.replicate plus.length cdInt.z), Rs.box gb1 27 [.slice none 0 0, .int .i64 0]] ∧ em0 = decide ((plus.length : Int) + loops = 0)) ?_ ?_
          · refine ws_region rfl ?_
            refine wl_op (k := 0) (k' := 1) rfl rfl rfl (wo_run rfl rfl (run_move rfl rfl) ?_)
            refine wl_op (k := 1) (k' := 2) rfl rfl rfl (wo_run rfl rfl (run_eql rfl rfl rfl) ?_)
            refine wl_op (k := 2) (k' := 3) rfl rfl rfl (wo_run rfl rfl (run_move rfl rfl) ?_)
            refine wl_split (t := 44) rfl (fun hg44 => ?_) (fun hg44 => ?_)
            · have hg44 := of_decide_eq_true hg44
              refine wl_opG (k := 3) (k' := 4) rfl rfl ⟨_, _, _, rfl, rfl, rfl, rfl⟩ rfl (wo_run rfl rfl (run_move rfl rfl) ?_)
              refine wl_opG (k := 4) (k' := 5) rfl rfl ⟨_, _, _, rfl, rfl, rfl, rfl⟩ rfl (wo_run rfl rfl (run_eql rfl rfl rfl) ?_)
              refine wl_op (k := 5) (k' := 6) rfl rfl rfl (wo_run rfl rfl (run_pickT rfl rfl rfl) ?_)
              refine wl_op (k := 6) (k' := 7) rfl rfl rfl (wo_run rfl rfl (run_assign rfl rfl) ?_)
              refine wl_end rfl ?_
              refine nm_lp ?_
              intro ax_ hax_
              refine ⟨_, _, (Hp.le_refl _), hax_.sub ⟨rfl, rfl, rfl, rfl, rfl, rfl, rfl, rfl, trivial⟩, S5.pick [0, 1, 2] [_, _, _] (by decide) ⟨rfl, rfl, rfl, trivial⟩, ?hq3f0⟩
              case hq3f0 => first | (refine decide_eq_decide.2 ?_; omega) | (refine (decide_eq_false ?_).symm; omega)
            · have hg44 := of_decide_eq_false hg44
              refine wl_no (k := 3) (k' := 4) (d := 45) rfl rfl ⟨_, _, _, rfl, rfl, rfl, rfl⟩ rfl rfl ?_
              refine wl_no (k := 4) (k' := 5) (d := 46) rfl rfl ⟨_, _, _, rfl, rfl, rfl, rfl⟩ rfl rfl ?_
              refine wl_op (k := 5) (k' := 6) rfl rfl rfl (wo_run rfl rfl (run_pickF rfl rfl rfl) ?_)
              refine wl_op (k := 6) (k' := 7) rfl rfl rfl (wo_run rfl rfl (run_assign rfl rfl) ?_)
              refine wl_end rfl ?_
              refine nm_lp ?_
              intro ax_ hax_
              refine ⟨_, _, (Hp.le_refl _), hax_.sub ⟨rfl, rfl, rfl, rfl, rfl, rfl, rfl, rfl, trivial⟩, S5.pick [0, 1, 2] [_, _, _] (by decide) ⟨rfl, rfl, rfl, trivial⟩, ?hq4f0⟩
              case hq4f0 => first | (refine decide_eq_decide.2 ?_; omega) | (refine (decide_eq_false ?_).symm; omega)
          · rintro a2 w27 ⟨em0, M14, hle14, he2, S27, hem0⟩
            clear S5
            refine nm_in he2 ?_
            clear he2 a2
            replace hl := hl.mono (Hp.un_mono hle14 S27.mx)
            replace hdl := hdl.mono (Hp.un_mono hle14 S27.mx)
            replace hplus := hplus.mono (Hp.un_mono hle14 S27.mx)
            refine nm_thn ?_
            refine ws_seqN BuildOf_n17 BuildOf_n18 rfl rfl rfl ?_
            refine ws_seqN BuildOf_n19 BuildOf_n20 rfl rfl rfl ?_
            refine ws_region rfl ?_
            refine wl_op (k := 0) (k' := 1) rfl rfl rfl (wo_run rfl rfl (run_assign rfl rfl) ?_)
            refine wl_end rfl ?_
            refine nm_thn ?_
            refine ws_blockN BuildOf_n21 0 rfl rfl rfl ?_
            refine ws_loopE (fun mx_ ax_ wx_ => ∃ (i : Nat) (em : Bool) (cs : List I2) (rb : List Int) (ra : List Int) (vr9 : Value) (vr10 : Value), mx_ = lv.length - i ∧ Env 215 [(0, .slice lA lv.length lc), (1, .slice plusA plus.length plusc), (2, .int .i64 loops), (6, .pointer (some ⟨gb1, 0, none⟩)), (8, .int .i64 (plus.length : Int)), (9, vr9), (10, vr10), (11, .bool em), (12, .int .i64 (i : Int))] ax_ ∧ SH wx_ M14 X [Rs.row cdInt vr9 rb, Rs.row cdInt vr10 ra, Rs.box gb1 27 [.slice none 0 0, .int .i64 0]] ∧ i ≤ lv.length ∧ okL plus.length l i ∧ em = emT (decide ((plus.length : Int) + loops = 0)) l i ∧ cs = cntL l (cnt0 plus.length) i ∧ cs.length = plus.length ∧ rb = cs.map I2.b ∧ ra = cs.map I2.a) rfl ?_ ?_
            · intro ax_ hax_
              refine ⟨_, ⟨0, _, (cnt0 plus.length), _, _, _, _, rfl, hax_.sub ⟨rfl, rfl, rfl, rfl, rfl, rfl, rfl, rfl, rfl, trivial⟩, S27.pick [0, 1, 2] [_, _, _] (by decide) ⟨rfl, rfl, rfl, trivial⟩, ?hq5f0, ?hq5f1, ?hq5f2, ?hq5f3, ?hq5f4, ?hq5f5, ?hq5f6⟩⟩
              case hq5f0 => omega
              case hq5f1 => (intro i h; omega)
              case hq5f2 => (rw [hem0]; rfl)
              case hq5f3 => rfl
              case hq5f4 => simp [cnt0]
              case hq5f5 => (unfold cnt0; rw [List.map_replicate]; rfl)
              case hq5f6 => (unfold cnt0; rw [List.map_replicate]; rfl)
            · rintro m1 a3 w28 ⟨i, em, cs, rb, ra, vr9, vr10, rfl, he3, S28, hi, hok, hem, hcs, hcl, hrb, hra⟩
              clear S27
              refine ws_in he3 (c := BuildOf_n22) rfl ?_
              clear he3 a3
              refine ws_seqN BuildOf_n23 BuildOf_n24 rfl rfl rfl ?_
              refine ws_seqN BuildOf_n25 BuildOf_n26 rfl rfl rfl ?_
              refine ws_region rfl ?_
              refine wl_op (k := 0) (k' := 1) rfl rfl rfl (wo_run rfl rfl (run_move rfl rfl) ?_)
              refine wl_op (k := 1) (k' := 2) rfl rfl rfl (wo_run rfl rfl (run_move rfl rfl) ?_)
              refine wl_op (k := 2) (k' := 3) rfl rfl rfl (wo_run rfl rfl (run_len rfl rfl rfl rfl rfl rfl Try.underlying22) ?_)
              refine wl_op (k := 3) (k' := 4) rfl rfl rfl (wo_run rfl rfl (run_lss rfl rfl rfl) ?_)
              refine wl_end rfl ?_
              refine nm_sub [(0, _), (1, _), (2, _), (6, _), (8, _), (9, _), (10, _), (11, _), (12, _), (51, _)] ⟨rfl, rfl, rfl, rfl, rfl, rfl, rfl, rfl, rfl, rfl, trivial⟩ ?_
              refine nm_thn ?_
              refine ws_condN BuildOf_n27 BuildOf_n28 rfl rfl rfl rfl (fun hb51 => ?_) (fun hb51 => ?_)
              · have hb51 := of_decide_eq_true hb51
                refine ws_skip rfl ?_
                refine nm_sub [(0, _), (1, _), (2, _), (6, _), (8, _), (9, _), (10, _), (11, _), (12, _)] ⟨rfl, rfl, rfl, rfl, rfl, rfl, rfl, rfl, rfl, trivial⟩ ?_
                refine nm_thn ?_
                refine ws_seqN BuildOf_n29 BuildOf_n30 rfl rfl rfl ?_
                refine ws_blockN BuildOf_n31 1 rfl rfl rfl ?_
                refine ws_seqN BuildOf_n32 BuildOf_n33 rfl rfl rfl ?_
                refine ws_region rfl ?_
                refine wl_op (k := 0) (k' := 1) rfl rfl rfl (wo_run rfl rfl (run_move rfl rfl) ?_)
                refine wl_op (k := 1) (k' := 2) rfl rfl rfl (wo_run rfl rfl (run_move rfl rfl) ?_)
                refine wl_split (t := 55) rfl (fun hg55 => ?_) (fun hg55 => ?_)
                · refine wl_no (k := 2) (k' := 3) (d := 56) rfl rfl ⟨_, _, _, rfl, rfl, rfl, rfl⟩ rfl rfl ?_
                  refine wl_no (k := 3) (k' := 4) (d := 57) rfl rfl ⟨_, _, _, rfl, rfl, rfl, rfl⟩ rfl rfl ?_
                  refine wl_no (k := 4) (k' := 5) (d := 58) rfl rfl ⟨_, _, _, rfl, rfl, rfl, rfl⟩ rfl rfl ?_
                  refine wl_no (k := 5) (k' := 6) (d := 59) rfl rfl ⟨_, _, _, rfl, rfl, rfl, rfl⟩ rfl rfl ?_
                  refine wl_no (k := 6) (k' := 7) (d := 60) rfl rfl ⟨_, _, _, rfl, rfl, rfl, rfl⟩ rfl rfl ?_
                  refine wl_no (k := 7) (k' := 8) (d := 61) rfl rfl ⟨_, _, _, rfl, rfl, rfl, rfl⟩ rfl rfl ?_
                  refine wl_op (k := 8) (k' := 9) rfl rfl rfl (wo_run rfl rfl (run_pickT rfl rfl rfl) ?_)
                  refine wl_op (k := 9) (k' := 10) rfl rfl rfl (wo_run rfl rfl (run_assign rfl rfl) ?_)
                  refine wl_end rfl ?_
                  refine nm_sub [(0, _), (1, _), (2, _), (6, _), (8, _), (9, _), (10, _), (11, _), (12, _)] ⟨rfl, rfl, rfl, rfl, rfl, rfl, rfl, rfl, rfl, trivial⟩ ?_
                  refine nm_thn ?_
                  refine ws_seqN BuildOf_n34 BuildOf_n35 rfl rfl rfl ?_
                  refine ws_region rfl ?_
                  refine wl_op (k := 0) (k' := 1) rfl rfl rfl (wo_run rfl rfl (run_assign rfl rfl) ?_)
                  refine wl_end rfl ?_
                  refine nm_thn ?_
                  refine ws_blockN BuildOf_n36 2 rfl rfl rfl ?_
                  refine ws_loopE (fun mx_ ax_ wx_ => ∃ (j : Nat) (cs2 : List I2) (rb2 : List Int) (ra2 : List Int) (vr9b : Value) (vr10b : Value), mx_ = (ga l i).length - j ∧ Env 215 [(0, .slice lA lv.length lc), (1, .slice plusA plus.length plusc), (2, .int .i64 loops), (6, .pointer (some ⟨gb1, 0, none⟩)), (8, .int .i64 (plus.length : Int)), (9, vr9b), (10, vr10b), (11, .bool true), (12, .int .i64 (i : Int)), (13, .int .i64 (j : Int))] ax_ ∧ SH wx_ M14 X [Rs.row cdInt vr9b rb2, Rs.row cdInt vr10b ra2, Rs.box gb1 27 [.slice none 0 0, .int .i64 0]] ∧ j ≤ (ga l i).length ∧ okP plus.length (ga l i) j ∧ cs2 = cntP (ga l i) cs j ∧ cs2.length = plus.length ∧ rb2 = cs2.map I2.b ∧ ra2 = cs2.map I2.a) rfl ?_ ?_
                  · intro ax_ hax_
                    refine ⟨_, ⟨0, cs, _, _, _, _, rfl, hax_.sub ⟨rfl, rfl, rfl, rfl, rfl, rfl, rfl, rfl, rfl, rfl, trivial⟩, S28.pick [0, 1, 2] [_, _, _] (by decide) ⟨rfl, rfl, rfl, trivial⟩, ?hq6f0, ?hq6f1, ?hq6f2, ?hq6f3, ?hq6f4, ?hq6f5⟩⟩
                    case hq6f0 => omega
                    case hq6f1 => (intro i h; omega)
                    case hq6f2 => rfl
                    case hq6f3 => assumption
                    case hq6f4 => assumption
                    case hq6f5 => assumption
                  · rintro m2 a4 w29 ⟨j, cs2, rb2, ra2, vr9b, vr10b, rfl, he4, S29, hj, hokp, hcs2, hcl2, hrb2, hra2⟩
                    clear S28
                    refine ws_in he4 (c := BuildOf_n37) rfl ?_
                    clear he4 a4
                    have hokj : j < (ga l i).length → 0 ≤ (ga (ga l i) j).c ∧ (ga (ga l i) j).c < plus.length → (ga (ga l i) j).c.toNat < plus.length ∧ (ga (ga l i) j).c = ((ga (ga l i) j).c.toNat : Int) := fun h h9 => (by omega)
                    refine ws_seqN BuildOf_n38 BuildOf_n39 rfl rfl rfl ?_
                    refine ws_seqN BuildOf_n40 BuildOf_n41 rfl rfl rfl ?_
                    refine ws_region rfl ?_
                    refine wl_op (k := 0) (k' := 1) rfl rfl rfl (wo_run rfl rfl (run_move rfl rfl) ?_)
                    refine wl_op (k := 1) (k' := 2) rfl rfl rfl (wo_run rfl rfl (run_move rfl rfl) ?_)
                    refine wl_op (k := 2) (k' := 3) rfl rfl rfl (wo_run rfl rfl (run_move rfl rfl) ?_)
                    refine wl_op (k := 3) (k' := 4) rfl rfl rfl (wo_run rfl rfl (run_indexM (C := (cdV 24)) i rfl rfl rfl sl22 (by first | rfl | omega) hl (by first | omega | (simp only [List.length_set, List.length_append, List.length_replicate, List.length_singleton, List.length_cons, List.length_nil]; omega))) ?_)
                    obtain ⟨hn1, hr1⟩ := hdl.2 i (by first | omega | (simp only [List.length_set, List.length_append, List.length_replicate, List.length_singleton, List.length_cons, List.length_nil]; omega))
                    have rmhr1 : (ga l i).length * 16 ≤ 140737488355328 := hr1.room
                    refine wl_op (k := 4) (k' := 5) rfl rfl rfl (wo_run rfl rfl (run_load1 rfl rfl Try.underlying24 rfl (hl.cell S29.um (i := i) (by first | omega | (simp only [List.length_set, List.length_append, List.length_replicate, List.length_singleton, List.length_cons, List.length_nil]; omega)) 0 rfl (congrArg (fun n => some (Value.slice _ n _)) hn1))) ?_)
                    refine wl_op (k := 5) (k' := 6) rfl rfl rfl (wo_run rfl rfl (run_len rfl rfl rfl rfl rfl rfl Try.underlying24) ?_)
                    refine wl_op (k := 6) (k' := 7) rfl rfl rfl (wo_run rfl rfl (run_lss rfl rfl rfl) ?_)
                    refine wl_end rfl ?_
                    refine nm_sub [(0, _), (1, _), (2, _), (6, _), (8, _), (9, _), (10, _), (11, _), (12, _), (13, _), (69, _)] ⟨rfl, rfl, rfl, rfl, rfl, rfl, rfl, rfl, rfl, rfl, rfl, trivial⟩ ?_
                    refine nm_thn ?_
                    refine ws_condN BuildOf_n42 BuildOf_n43 rfl rfl rfl rfl (fun hb69 => ?_) (fun hb69 => ?_)
                    · have hb69 := of_decide_eq_true hb69
                      refine ws_skip rfl ?_
                      refine nm_sub [(0, _), (1, _), (2, _), (6, _), (8, _), (9, _), (10, _), (11, _), (12, _), (13, _)] ⟨rfl, rfl, rfl, rfl, rfl, rfl, rfl, rfl, rfl, rfl, trivial⟩ ?_
                      refine nm_thn ?_
                      refine ws_seqN BuildOf_n44 BuildOf_n45 rfl rfl rfl ?_
                      refine ws_blockN BuildOf_n46 3 rfl rfl rfl ?_
                      refine ws_seqN BuildOf_n47 BuildOf_n48 rfl rfl rfl ?_
                      refine ws_region rfl ?_
                      refine wl_op (k := 0) (k' := 1) rfl rfl rfl (wo_run rfl rfl (run_move rfl rfl) ?_)
                      refine wl_op (k := 1) (k' := 2) rfl rfl rfl (wo_run rfl rfl (run_move rfl rfl) ?_)
                      refine wl_op (k := 2) (k' := 3) rfl rfl rfl (wo_run rfl rfl (run_indexM (C := (cdV 24)) i rfl rfl rfl sl22 (by first | rfl | omega) hl (by first | omega | (simp only [List.length_set, List.length_append, List.length_replicate, List.length_singleton, List.length_cons, List.length_nil]; omega))) ?_)
                      obtain ⟨hn2, hr2⟩ := hdl.2 i (by first | omega | (simp only [List.length_set, List.length_append, List.length_replicate, List.length_singleton, List.length_cons, List.length_nil]; omega))
                      have rmhr2 : (ga l i).length * 16 ≤ 140737488355328 := hr2.room
                      refine wl_op (k := 3) (k' := 4) rfl rfl rfl (wo_run rfl rfl (run_load1 rfl rfl Try.underlying24 rfl (hl.cell S29.um (i := i) (by first | omega | (simp only [List.length_set, List.length_append, List.length_replicate, List.length_singleton, List.length_cons, List.length_nil]; omega)) 0 rfl (congrArg (fun n => some (Value.slice _ n _)) hn2))) ?_)
                      refine wl_op (k := 4) (k' := 5) rfl rfl rfl (wo_run rfl rfl (run_move rfl rfl) ?_)
                      refine wl_op (k := 5) (k' := 6) rfl rfl rfl (wo_run rfl rfl (run_indexM (C := cdVi) j rfl rfl rfl sl24 (by first | rfl | omega) hr2 (by first | omega | (simp only [List.length_set, List.length_append, List.length_replicate, List.length_singleton, List.length_cons, List.length_nil]; omega))) ?_)
                      refine wl_op (k := 6) (k' := 7) rfl rfl rfl (wo_run rfl rfl (run_loadN (us := [_, _]) rfl rfl Try.underlying70 rfl sz70 (hr2.cellsAt S29.um (e := j) (by first | omega | (simp only [List.length_set, List.length_append, List.length_replicate, List.length_singleton, List.length_cons, List.length_nil]; omega)) (j := 0) ⟨rfl, rfl, trivial⟩)) ?_)
                      refine wl_op (k := 7) (k' := 8) rfl rfl rfl (wo_alloc (l := [_, _]) rfl rfl rfl zr70 rfl S29 ?_)
                      intro gb2 w30 S30; clear S29
                      refine wl_op (k := 8) (k' := 9) rfl rfl rfl (wo_storeB (i := 0) (us := [_, _]) (l' := [_, _]) (H' := [_, _, _, _]) rfl rfl S30 rfl rfl rfl rfl sz70 rfl rfl rfl rfl ?_)
                      intro w31 S31; clear S30
                      refine wl_end rfl ?_
                      refine nm_sub [(0, _), (1, _), (2, _), (6, _), (8, _), (9, _), (10, _), (11, _), (12, _), (13, _), (14, _)] ⟨rfl, rfl, rfl, rfl, rfl, rfl, rfl, rfl, rfl, rfl, rfl, trivial⟩ ?_
                      refine nm_thn ?_
                      refine ws_seqN BuildOf_n49 BuildOf_n50 rfl rfl rfl ?_
                      refine ws_seqN BuildOf_n51 BuildOf_n52 rfl rfl rfl ?_
                      refine ws_region rfl ?_
                      refine wl_op (k := 0) (k' := 1) rfl rfl rfl (wo_run rfl rfl (run_fieldAddr rfl rfl Try.underlying70 rfl (ce3) (nf3)) ?_)
                      refine wl_op (k := 1) (k' := 2) rfl rfl rfl (wo_run rfl rfl (run_load1 rfl rfl Try.underlying3 rfl (S31.boxc (i := 0) rfl rfl)) ?_)
                      refine wl_op (k := 2) (k' := 3) rfl rfl rfl (wo_run rfl rfl (run_lss rfl rfl rfl) ?_)
                      refine wl_op (k := 3) (k' := 4) rfl rfl rfl (wo_run rfl rfl (run_move rfl rfl) ?_)
                      refine wl_split (t := 82) rfl (fun hg82 => ?_) (fun hg82 => ?_)
                      · have hg82 := of_decide_eq_true hg82
                        refine wl_no (k := 4) (k' := 5) (d := 83) rfl rfl ⟨_, _, _, rfl, rfl, rfl, rfl⟩ rfl rfl ?_
                        refine wl_no (k := 5) (k' := 6) (d := 84) rfl rfl ⟨_, _, _, rfl, rfl, rfl, rfl⟩ rfl rfl ?_
                        refine wl_no (k := 6) (k' := 7) (d := 85) rfl rfl ⟨_, _, _, rfl, rfl, rfl, rfl⟩ rfl rfl ?_
                        refine wl_no (k := 7) (k' := 8) (d := 86) rfl rfl ⟨_, _, _, rfl, rfl, rfl, rfl⟩ rfl rfl ?_
                        refine wl_op (k := 8) (k' := 9) rfl rfl rfl (wo_run rfl rfl (run_pickT rfl rfl rfl) ?_)
                        refine wl_end rfl ?_
                        refine nm_sub [(0, _), (1, _), (2, _), (6, _), (8, _), (9, _), (10, _), (11, _), (12, _), (13, _), (14, _), (87, _)] ⟨rfl, rfl, rfl, rfl, rfl, rfl, rfl, rfl, rfl, rfl, rfl, rfl, trivial⟩ ?_
                        refine nm_thn ?_
                        refine ws_condTN BuildOf_n53 rfl rfl rfl ?_
                        refine ws_seqN BuildOf_n55 BuildOf_n56 rfl rfl rfl ?_
                        refine ws_region rfl ?_
                        refine wl_op (k := 0) (k' := 1) rfl rfl rfl (wo_run rfl rfl (run_build (l := [_, _]) rfl rfl st27 rfl rfl) ?_)
                        refine wl_op (k := 1) (k' := 2) rfl rfl rfl (wo_storeB (i := 3) (us := [_, _]) (l' := [_, _]) (H' := [_, _, _, _]) rfl rfl S31 rfl rfl rfl rfl sz27 rfl rfl rfl rfl ?_)
                        intro w32 S32; clear S31
                        refine wl_op (k := 2) (k' := 3) rfl rfl rfl (wo_run rfl rfl (run_assign rfl rfl) ?_)
                        refine wl_end rfl ?_
                        refine nm_sub [(6, _), (7, _)] ⟨rfl, rfl, trivial⟩ ?_
                        refine nm_thn ?_
                        refine ws_ret hC [_, _] rfl rfl ⟨⟨_, rfl, loadVarN (us := [_, _]) Try.underlying27 rfl sz27 (S32.boxcs (i := 3) rfl ⟨rfl, rfl, trivial⟩)⟩, rfl, trivial⟩ ?_
                        refine ⟨_, rfl, _, hle1.trans hle14, (S32.pick [] [] (by decide) trivial), ?_⟩
                        have hE : buildE plus.length l loops = 3 := (by have hlv := hdl.1; unfold buildE; rw [if_neg (by omega)]; rw [if_pos (badL_true (i := i) (j := j) (by omega) (by omega) (by omega))])
                        unfold buildR
                        rw [if_pos (by rw [hE]; decide), hE]
                        exact ⟨none, 0, rfl, RdA.nil_⟩
                      · have hg82 := of_decide_eq_false hg82
                        refine wl_opG (k := 4) (k' := 5) rfl rfl ⟨_, _, _, rfl, rfl, rfl, rfl⟩ rfl (wo_run rfl rfl (run_fieldAddr rfl rfl Try.underlying70 rfl (ce3) (nf3)) ?_)
                        refine wl_opG (k := 5) (k' := 6) rfl rfl ⟨_, _, _, rfl, rfl, rfl, rfl⟩ rfl (wo_run rfl rfl (run_load1 rfl rfl Try.underlying3 rfl (S31.boxc (i := 0) rfl rfl)) ?_)
                        refine wl_opG (k := 6) (k' := 7) rfl rfl ⟨_, _, _, rfl, rfl, rfl, rfl⟩ rfl (wo_run rfl rfl (run_move rfl rfl) ?_)
                        refine wl_opG (k := 7) (k' := 8) rfl rfl ⟨_, _, _, rfl, rfl, rfl, rfl⟩ rfl (wo_run rfl rfl (run_geq rfl rfl rfl) ?_)
                        refine wl_op (k := 8) (k' := 9) rfl rfl rfl (wo_run rfl rfl (run_pickF rfl rfl rfl) ?_)
                        refine wl_end rfl ?_
                        refine nm_sub [(0, _), (1, _), (2, _), (6, _), (8, _), (9, _), (10, _), (11, _), (12, _), (13, _), (14, _), (87, _)] ⟨rfl, rfl, rfl, rfl, rfl, rfl, rfl, rfl, rfl, rfl, rfl, rfl, trivial⟩ ?_
                        refine nm_thn ?_
                        refine ws_condN BuildOf_n53 BuildOf_n54 rfl rfl rfl rfl (fun hb87 => ?_) (fun hb87 => ?_)
                        · have hb87 := of_decide_eq_true hb87
                          refine ws_seqN BuildOf_n55 BuildOf_n56 rfl rfl rfl ?_
                          refine ws_region rfl ?_
                          refine wl_op (k := 0) (k' := 1) rfl rfl rfl (wo_run rfl rfl (run_build (l := [_, _]) rfl rfl st27 rfl rfl) ?_)
                          refine wl_op (k := 1) (k' := 2) rfl rfl rfl (wo_storeB (i := 3) (us := [_, _]) (l' := [_, _]) (H' := [_, _, _, _]) rfl rfl S31 rfl rfl rfl rfl sz27 rfl rfl rfl rfl ?_)
                          intro w33 S33; clear S31
                          refine wl_op (k := 2) (k' := 3) rfl rfl rfl (wo_run rfl rfl (run_assign rfl rfl) ?_)
                          refine wl_end rfl ?_
                          refine nm_sub [(6, _), (7, _)] ⟨rfl, rfl, trivial⟩ ?_
                          refine nm_thn ?_
                          refine ws_ret hC [_, _] rfl rfl ⟨⟨_, rfl, loadVarN (us := [_, _]) Try.underlying27 rfl sz27 (S33.boxcs (i := 3) rfl ⟨rfl, rfl, trivial⟩)⟩, rfl, trivial⟩ ?_
                          refine ⟨_, rfl, _, hle1.trans hle14, (S33.pick [] [] (by decide) trivial), ?_⟩
                          have hE : buildE plus.length l loops = 3 := (by have hlv := hdl.1; unfold buildE; rw [if_neg (by omega)]; rw [if_pos (badL_true (i := i) (j := j) (by omega) (by omega) (by omega))])
                          unfold buildR
                          rw [if_pos (by rw [hE]; decide), hE]
                          exact ⟨none, 0, rfl, RdA.nil_⟩
                        · have hb87 := of_decide_eq_false hb87
                          refine ws_skip rfl ?_
                          refine nm_sub [(0, _), (1, _), (2, _), (6, _), (8, _), (9, _), (10, _), (11, _), (12, _), (13, _), (14, _)] ⟨rfl, rfl, rfl, rfl, rfl, rfl, rfl, rfl, rfl, rfl, rfl, trivial⟩ ?_
                          refine nm_thn ?_
                          refine ws_seqN BuildOf_n57 BuildOf_n58 rfl rfl rfl ?_
                          refine ws_region rfl ?_
                          refine wl_op (k := 0) (k' := 1) rfl rfl rfl (wo_run rfl rfl (run_fieldAddr rfl rfl Try.underlying70 rfl (ce4) (nf4)) ?_)
                          refine wl_op (k := 1) (k' := 2) rfl rfl rfl (wo_run rfl rfl (run_load1 rfl rfl Try.underlying4 rfl (S31.boxc (i := 0) rfl rfl)) ?_)
                          refine wl_end rfl ?_
                          refine nm_sub [(0, _), (1, _), (2, _), (6, _), (8, _), (9, _), (10, _), (11, _), (12, _), (13, _), (14, _), (90, _)] ⟨rfl, rfl, rfl, rfl, rfl, rfl, rfl, rfl, rfl, rfl, rfl, rfl, trivial⟩ ?_
                          refine nm_thn ?_
                          refine ws_condN BuildOf_n59 BuildOf_n60 rfl rfl rfl rfl (fun hb90 => ?_) (fun hb90 => ?_)
                          · have hrb2l : rb2.length = plus.length := by rw [hrb2, List.length_map]; exact hcl2
                            have hra2l : ra2.length = plus.length := by rw [hra2, List.length_map]; exact hcl2
                            have hvb := hokj (by omega) (by omega)
                            refine ws_region rfl ?_
                            refine wl_op (k := 0) (k' := 1) rfl rfl rfl (wo_run rfl rfl (run_move rfl rfl) ?_)
                            refine wl_op (k := 1) (k' := 2) rfl rfl rfl (wo_run rfl rfl (run_fieldAddr rfl rfl Try.underlying70 rfl (ce3) (nf3)) ?_)
                            refine wl_op (k := 2) (k' := 3) rfl rfl rfl (wo_run rfl rfl (run_load1 rfl rfl Try.underlying3 rfl (S31.boxc (i := 0) rfl rfl)) ?_)
                            refine wl_op (k := 3) (k' := 4) rfl rfl rfl (wo_run rfl rfl (run_indexR (C := cdInt) (i := 1) (((ga (ga l i) j).c).toNat) rfl rfl rfl sl44 S31 rfl (by first | rfl | omega) (by first | omega | (simp only [List.length_set, List.length_append, List.length_replicate, List.length_singleton, List.length_cons, List.length_nil]; omega))) ?_)
                            refine wl_op (k := 4) (k' := 5) rfl rfl rfl (wo_run rfl rfl (run_load1 rfl rfl Try.underlying3 rfl (S31.rowc (i := 1) (e := ((ga (ga l i) j).c).toNat) (j := 0) rfl (by first | omega | (simp only [List.length_set, List.length_append, List.length_replicate, List.length_singleton, List.length_cons, List.length_nil]; omega)) rfl rfl)) ?_)
                            refine wl_op (k := 5) (k' := 6) rfl rfl rfl (wo_run rfl rfl (run_addW rfl rfl rfl) ?_)
                            refine wl_op (k := 6) (k' := 7) rfl rfl rfl (wo_run rfl rfl (run_indexR (C := cdInt) (i := 1) (((ga (ga l i) j).c).toNat) rfl rfl rfl sl44 S31 rfl (by first | rfl | omega) (by first | omega | (simp only [List.length_set, List.length_append, List.length_replicate, List.length_singleton, List.length_cons, List.length_nil]; omega))) ?_)
                            refine wl_op (k := 7) (k' := 8) rfl rfl rfl (wo_storeR (C := cdInt) (i := 1) (e := ((ga (ga l i) j).c).toNat) (j := 0) (us := [_]) (H' := [_, _, _, _]) (wr ((ga rb2 (((ga (ga l i) j).c).toNat)) + 1)) rfl rfl S31 rfl (by first | omega | (simp only [List.length_set, List.length_append, List.length_replicate, List.length_singleton, List.length_cons, List.length_nil]; omega)) rfl rfl rfl sz3 rfl rfl rfl rfl ?_)
                            intro w34 S34; clear S31
                            refine wl_end rfl ?_
                            refine nm_blk ?_
                            refine nm_sub [(0, _), (1, _), (2, _), (6, _), (8, _), (9, _), (10, _), (11, _), (12, _), (13, _)] ⟨rfl, rfl, rfl, rfl, rfl, rfl, rfl, rfl, rfl, rfl, trivial⟩ ?_
                            refine nm_thn ?_
                            refine ws_region rfl ?_
                            refine wl_op (k := 0) (k' := 1) rfl rfl rfl (wo_run rfl rfl (run_move rfl rfl) ?_)
                            refine wl_op (k := 1) (k' := 2) rfl rfl rfl (wo_run rfl rfl (run_add rfl rfl rfl (by first | omega | (simp only [List.length_set, List.length_append, List.length_replicate, List.length_singleton, List.length_cons, List.length_nil]; omega))) ?_)
                            refine wl_op (k := 2) (k' := 3) rfl rfl rfl (wo_run rfl rfl (run_assign rfl rfl) ?_)
                            refine wl_end rfl ?_
                            refine nm_lp ?_
                            intro ax_ hax_
                            refine ⟨_, ?hq7m, ⟨j + 1, (bump cs2 (ga (ga l i) j)), _, _, _, _, rfl, hax_.sub ⟨rfl, rfl, rfl, rfl, rfl, rfl, rfl, rfl, rfl, rfl, trivial⟩, S34.pick [1, 2, 3] [_, _, _] (by decide) ⟨rfl, rfl, rfl, trivial⟩, ?hq7f0, ?hq7f1, ?hq7f2, ?hq7f3, ?hq7f4, ?hq7f5⟩⟩
                            case hq7f0 => omega
                            case hq7f1 => (intro q hq; by_cases h : q = j; (subst h; omega); exact hokp q (by omega))
                            case hq7f2 => (rw [cntP_succ, ← hcs2])
                            case hq7f3 => (rw [bump_len]; exact hcl2)
                            case hq7f4 => (subst hrb2 hra2; first | exact (bump_bT hb90 (by omega)).1 | exact (bump_bF hb90 (by omega)).2)
                            case hq7f5 => (subst hrb2 hra2; first | exact (bump_bT hb90 (by omega)).2 | exact (bump_bF hb90 (by omega)).1)
                            case hq7m => omega
                          · have hrb2l : rb2.length = plus.length := by rw [hrb2, List.length_map]; exact hcl2
                            have hra2l : ra2.length = plus.length := by rw [hra2, List.length_map]; exact hcl2
                            have hvb := hokj (by omega) (by omega)
                            refine ws_region rfl ?_
                            refine wl_op (k := 0) (k' := 1) rfl rfl rfl (wo_run rfl rfl (run_move rfl rfl) ?_)
                            refine wl_op (k := 1) (k' := 2) rfl rfl rfl (wo_run rfl rfl (run_fieldAddr rfl rfl Try.underlying70 rfl (ce3) (nf3)) ?_)
                            refine wl_op (k := 2) (k' := 3) rfl rfl rfl (wo_run rfl rfl (run_load1 rfl rfl Try.underlying3 rfl (S31.boxc (i := 0) rfl rfl)) ?_)
                            refine wl_op (k := 3) (k' := 4) rfl rfl rfl (wo_run rfl rfl (run_indexR (C := cdInt) (i := 2) (((ga (ga l i) j).c).toNat) rfl rfl rfl sl44 S31 rfl (by first | rfl | omega) (by first | omega | (simp only [List.length_set, List.length_append, List.length_replicate, List.length_singleton, List.length_cons, List.length_nil]; omega))) ?_)
                            refine wl_op (k := 4) (k' := 5) rfl rfl rfl (wo_run rfl rfl (run_load1 rfl rfl Try.underlying3 rfl (S31.rowc (i := 2) (e := ((ga (ga l i) j).c).toNat) (j := 0) rfl (by first | omega | (simp only [List.length_set, List.length_append, List.length_replicate, List.length_singleton, List.length_cons, List.length_nil]; omega)) rfl rfl)) ?_)
                            refine wl_op (k := 5) (k' := 6) rfl rfl rfl (wo_run rfl rfl (run_addW rfl rfl rfl) ?_)
                            refine wl_op (k := 6) (k' := 7) rfl rfl rfl (wo_run rfl rfl (run_indexR (C := cdInt) (i := 2) (((ga (ga l i) j).c).toNat) rfl rfl rfl sl44 S31 rfl (by first | rfl | omega) (by first | omega | (simp only [List.length_set, List.length_append, List.length_replicate, List.length_singleton, List.length_cons, List.length_nil]; omega))) ?_)
                            refine wl_op (k := 7) (k' := 8) rfl rfl rfl (wo_storeR (C := cdInt) (i := 2) (e := ((ga (ga l i) j).c).toNat) (j := 0) (us := [_]) (H' := [_, _, _, _]) (wr ((ga ra2 (((ga (ga l i) j).c).toNat)) + 1)) rfl rfl S31 rfl (by first | omega | (simp only [List.length_set, List.length_append, List.length_replicate, List.length_singleton, List.length_cons, List.length_nil]; omega)) rfl rfl rfl sz3 rfl rfl rfl rfl ?_)
                            intro w35 S35; clear S31
                            refine wl_end rfl ?_
                            refine nm_blk ?_
                            refine nm_sub [(0, _), (1, _), (2, _), (6, _), (8, _), (9, _), (10, _), (11, _), (12, _), (13, _)] ⟨rfl, rfl, rfl, rfl, rfl, rfl, rfl, rfl, rfl, rfl, trivial⟩ ?_
                            refine nm_thn ?_
                            refine ws_region rfl ?_
                            refine wl_op (k := 0) (k' := 1) rfl rfl rfl (wo_run rfl rfl (run_move rfl rfl) ?_)
                            refine wl_op (k := 1) (k' := 2) rfl rfl rfl (wo_run rfl rfl (run_add rfl rfl rfl (by first | omega | (simp only [List.length_set, List.length_append, List.length_replicate, List.length_singleton, List.length_cons, List.length_nil]; omega))) ?_)
                            refine wl_op (k := 2) (k' := 3) rfl rfl rfl (wo_run rfl rfl (run_assign rfl rfl) ?_)
                            refine wl_end rfl ?_
                            refine nm_lp ?_
                            intro ax_ hax_
                            refine ⟨_, ?hq8m, ⟨j + 1, (bump cs2 (ga (ga l i) j)), _, _, _, _, rfl, hax_.sub ⟨rfl, rfl, rfl, rfl, rfl, rfl, rfl, rfl, rfl, rfl, trivial⟩, S35.pick [1, 2, 3] [_, _, _] (by decide) ⟨rfl, rfl, rfl, trivial⟩, ?hq8f0, ?hq8f1, ?hq8f2, ?hq8f3, ?hq8f4, ?hq8f5⟩⟩
                            case hq8f0 => omega
                            case hq8f1 => (intro q hq; by_cases h : q = j; (subst h; omega); exact hokp q (by omega))
                            case hq8f2 => (rw [cntP_succ, ← hcs2])
                            case hq8f3 => (rw [bump_len]; exact hcl2)
                            case hq8f4 => (subst hrb2 hra2; first | exact (bump_bT hb90 (by omega)).1 | exact (bump_bF hb90 (by omega)).2)
                            case hq8f5 => (subst hrb2 hra2; first | exact (bump_bT hb90 (by omega)).2 | exact (bump_bF hb90 (by omega)).1)
                            case hq8m => omega
                    · have hb69 := of_decide_eq_false hb69
                      refine ws_exit rfl rfl ?_
                      refine nm_blk ?_
                      refine nm_sub [(0, _), (1, _), (2, _), (6, _), (8, _), (9, _), (10, _), (11, _), (12, _)] ⟨rfl, rfl, rfl, rfl, rfl, rfl, rfl, rfl, rfl, trivial⟩ ?_
                      refine nm_thn ?_
                      refine ws_region rfl ?_
                      refine wl_op (k := 0) (k' := 1) rfl rfl rfl (wo_run rfl rfl (run_move rfl rfl) ?_)
                      refine wl_op (k := 1) (k' := 2) rfl rfl rfl (wo_run rfl rfl (run_add rfl rfl rfl (by first | omega | (simp only [List.length_set, List.length_append, List.length_replicate, List.length_singleton, List.length_cons, List.length_nil]; omega))) ?_)
                      refine wl_op (k := 2) (k' := 3) rfl rfl rfl (wo_run rfl rfl (run_assign rfl rfl) ?_)
                      refine wl_end rfl ?_
                      refine nm_lp ?_
                      intro ax_ hax_
                      refine ⟨_, ?hq9m, ⟨i + 1, _, cs2, _, _, _, _, rfl, hax_.sub ⟨rfl, rfl, rfl, rfl, rfl, rfl, rfl, rfl, rfl, trivial⟩, S29.pick [0, 1, 2] [_, _, _] (by decide) ⟨rfl, rfl, rfl, trivial⟩, ?hq9f0, ?hq9f1, ?hq9f2, ?hq9f3, ?hq9f4, ?hq9f5, ?hq9f6⟩⟩
                      case hq9f0 => omega
                      case hq9f1 => (intro q hq; by_cases h : q = i; (subst h; obtain rfl : j = (ga l q).length := (by omega); exact hokp); exact hok q (by omega))
                      case hq9f2 => (rw [emT_succ, ← hem]; first | (rw [hg55]; done) | (rw [hg55]; rfl))
                      case hq9f3 => (rw [cntL_succ, ← hcs]; obtain rfl : j = (ga l i).length := (by omega); exact hcs2)
                      case hq9f4 => assumption
                      case hq9f5 => assumption
                      case hq9f6 => assumption
                      case hq9m => omega
                · refine wl_opG (k := 2) (k' := 3) rfl rfl ⟨_, _, _, rfl, rfl, rfl, rfl⟩ rfl (wo_run rfl rfl (run_move rfl rfl) ?_)
                  refine wl_opG (k := 3) (k' := 4) rfl rfl ⟨_, _, _, rfl, rfl, rfl, rfl⟩ rfl (wo_run rfl rfl (run_move rfl rfl) ?_)
                  refine wl_opG (k := 4) (k' := 5) rfl rfl ⟨_, _, _, rfl, rfl, rfl, rfl⟩ rfl (wo_run rfl rfl (run_indexM (C := (cdV 24)) i rfl rfl rfl sl22 (by first | rfl | omega) hl (by first | omega | (simp only [List.length_set, List.length_append, List.length_replicate, List.length_singleton, List.length_cons, List.length_nil]; omega))) ?_)
                  obtain ⟨hn3, hr3⟩ := hdl.2 i (by first | omega | (simp only [List.length_set, List.length_append, List.length_replicate, List.length_singleton, List.length_cons, List.length_nil]; omega))
                  have rmhr3 : (ga l i).length * 16 ≤ 140737488355328 := hr3.room
                  refine wl_opG (k := 5) (k' := 6) rfl rfl ⟨_, _, _, rfl, rfl, rfl, rfl⟩ rfl (wo_run rfl rfl (run_load1 rfl rfl Try.underlying24 rfl (hl.cell S28.um (i := i) (by first | omega | (simp only [List.length_set, List.length_append, List.length_replicate, List.length_singleton, List.length_cons, List.length_nil]; omega)) 0 rfl (congrArg (fun n => some (Value.slice _ n _)) hn3))) ?_)
                  refine wl_opG (k := 6) (k' := 7) rfl rfl ⟨_, _, _, rfl, rfl, rfl, rfl⟩ rfl (wo_run rfl rfl (run_len rfl rfl rfl rfl rfl rfl Try.underlying24) ?_)
                  refine wl_opG (k := 7) (k' := 8) rfl rfl ⟨_, _, _, rfl, rfl, rfl, rfl⟩ rfl (wo_run rfl rfl (run_eql rfl rfl rfl) ?_)
                  refine wl_op (k := 8) (k' := 9) rfl rfl rfl (wo_run rfl rfl (run_pickF rfl rfl rfl) ?_)
                  refine wl_op (k := 9) (k' := 10) rfl rfl rfl (wo_run rfl rfl (run_assign rfl rfl) ?_)
                  refine wl_end rfl ?_
                  refine nm_sub [(0, _), (1, _), (2, _), (6, _), (8, _), (9, _), (10, _), (11, _), (12, _)] ⟨rfl, rfl, rfl, rfl, rfl, rfl, rfl, rfl, rfl, trivial⟩ ?_
                  refine nm_thn ?_
                  refine ws_seqN BuildOf_n34 BuildOf_n35 rfl rfl rfl ?_
                  refine ws_region rfl ?_
                  refine wl_op (k := 0) (k' := 1) rfl rfl rfl (wo_run rfl rfl (run_assign rfl rfl) ?_)
                  refine wl_end rfl ?_
                  refine nm_thn ?_
                  refine ws_blockN BuildOf_n36 2 rfl rfl rfl ?_
                  refine ws_loopE (fun mx_ ax_ wx_ => ∃ (j : Nat) (cs2 : List I2) (rb2 : List Int) (ra2 : List Int) (vr9b : Value) (vr10b : Value), mx_ = (ga l i).length - j ∧ Env 215 [(0, .slice lA lv.length lc), (1, .slice plusA plus.length plusc), (2, .int .i64 loops), (6, .pointer (some ⟨gb1, 0, none⟩)), (8, .int .i64 (plus.length : Int)), (9, vr9b), (10, vr10b), (11, .bool (decide (((ga l i).length : Int) = 0))), (12, .int .i64 (i : Int)), (13, .int .i64 (j : Int))] ax_ ∧ SH wx_ M14 X [Rs.row cdInt vr9b rb2, Rs.row cdInt vr10b ra2, Rs.box gb1 27 [.slice none 0 0, .int .i64 0]] ∧ j ≤ (ga l i).length ∧ okP plus.length (ga l i) j ∧ cs2 = cntP (ga l i) cs j ∧ cs2.length = plus.length ∧ rb2 = cs2.map I2.b ∧ ra2 = cs2.map I2.a) rfl ?_ ?_
                  · intro ax_ hax_
                    refine ⟨_, ⟨0, cs, _, _, _, _, rfl, hax_.sub ⟨rfl, rfl, rfl, rfl, rfl, rfl, rfl, rfl, rfl, rfl, trivial⟩, S28.pick [0, 1, 2] [_, _, _] (by decide) ⟨rfl, rfl, rfl, trivial⟩, ?hq10f0, ?hq10f1, ?hq10f2, ?hq10f3, ?hq10f4, ?hq10f5⟩⟩
                    case hq10f0 => omega
                    case hq10f1 => (intro i h; omega)
                    case hq10f2 => rfl
                    case hq10f3 => assumption
                    case hq10f4 => assumption
                    case hq10f5 => assumption
                  · rintro m3 a5 w36 ⟨j, cs2, rb2, ra2, vr9b, vr10b, rfl, he5, S36, hj, hokp, hcs2, hcl2, hrb2, hra2⟩
                    clear S28
                    refine ws_in he5 (c := BuildOf_n37) rfl ?_
                    clear he5 a5
                    have hokj : j < (ga l i).length → 0 ≤ (ga (ga l i) j).c ∧ (ga (ga l i) j).c < plus.length → (ga (ga l i) j).c.toNat < plus.length ∧ (ga (ga l i) j).c = ((ga (ga l i) j).c.toNat : Int) := fun h h9 => (by omega)
                    refine ws_seqN BuildOf_n38 BuildOf_n39 rfl rfl rfl ?_
                    refine ws_seqN BuildOf_n40 BuildOf_n41 rfl rfl rfl ?_
                    refine ws_region rfl ?_
                    refine wl_op (k := 0) (k' := 1) rfl rfl rfl (wo_run rfl rfl (run_move rfl rfl) ?_)
                    refine wl_op (k := 1) (k' := 2) rfl rfl rfl (wo_run rfl rfl (run_move rfl rfl) ?_)
                    refine wl_op (k := 2) (k' := 3) rfl rfl rfl (wo_run rfl rfl (run_move rfl rfl) ?_)
                    refine wl_op (k := 3) (k' := 4) rfl rfl rfl (wo_run rfl rfl (run_indexM (C := (cdV 24)) i rfl rfl rfl sl22 (by first | rfl | omega) hl (by first | omega | (simp only [List.length_set, List.length_append, List.length_replicate, List.length_singleton, List.length_cons, List.length_nil]; omega))) ?_)
                    obtain ⟨hn4, hr4⟩ := hdl.2 i (by first | omega | (simp only [List.length_set, List.length_append, List.length_replicate, List.length_singleton, List.length_cons, List.length_nil]; omega))
                    have rmhr4 : (ga l i).length * 16 ≤ 140737488355328 := hr4.room
                    refine wl_op (k := 4) (k' := 5) rfl rfl rfl (wo_run rfl rfl (run_load1 rfl rfl Try.underlying24 rfl (hl.cell S36.um (i := i) (by first | omega | (simp only [List.length_set, List.length_append, List.length_replicate, List.length_singleton, List.length_cons, List.length_nil]; omega)) 0 rfl (congrArg (fun n => some (Value.slice _ n _)) hn4))) ?_)
                    refine wl_op (k := 5) (k' := 6) rfl rfl rfl (wo_run rfl rfl (run_len rfl rfl rfl rfl rfl rfl Try.underlying24) ?_)
                    refine wl_op (k := 6) (k' := 7) rfl rfl rfl (wo_run rfl rfl (run_lss rfl rfl rfl) ?_)
                    refine wl_end rfl ?_
                    refine nm_sub [(0, _), (1, _), (2, _), (6, _), (8, _), (9, _), (10, _), (11, _), (12, _), (13, _), (69, _)] ⟨rfl, rfl, rfl, rfl, rfl, rfl, rfl, rfl, rfl, rfl, rfl, trivial⟩ ?_
                    refine nm_thn ?_
                    refine ws_condN BuildOf_n42 BuildOf_n43 rfl rfl rfl rfl (fun hb69 => ?_) (fun hb69 => ?_)
                    · have hb69 := of_decide_eq_true hb69
                      refine ws_skip rfl ?_
                      refine nm_sub [(0, _), (1, _), (2, _), (6, _), (8, _), (9, _), (10, _), (11, _), (12, _), (13, _)] ⟨rfl, rfl, rfl, rfl, rfl, rfl, rfl, rfl, rfl, rfl, trivial⟩ ?_
                      refine nm_thn ?_
                      refine ws_seqN BuildOf_n44 BuildOf_n45 rfl rfl rfl ?_
                      refine ws_blockN BuildOf_n46 3 rfl rfl rfl ?_
                      refine ws_seqN BuildOf_n47 BuildOf_n48 rfl rfl rfl ?_
                      refine ws_region rfl ?_
                      refine wl_op (k := 0) (k' := 1) rfl rfl rfl (wo_run rfl rfl (run_move rfl rfl) ?_)
                      refine wl_op (k := 1) (k' := 2) rfl rfl rfl (wo_run rfl rfl (run_move rfl rfl) ?_)
                      refine wl_op (k := 2) (k' := 3) rfl rfl rfl (wo_run rfl rfl (run_indexM (C := (cdV 24)) i rfl rfl rfl sl22 (by first | rfl | omega) hl (by first | omega | (simp only [List.length_set, List.length_append, List.length_replicate, List.length_singleton, List.length_cons, List.length_nil]; omega))) ?_)
                      obtain ⟨hn5, hr5⟩ := hdl.2 i (by first | omega | (simp only [List.length_set, List.length_append, List.length_replicate, List.length_singleton, List.length_cons, List.length_nil]; omega))
                      have rmhr5 : (ga l i).length * 16 ≤ 140737488355328 := hr5.room
                      refine wl_op (k := 3) (k' := 4) rfl rfl rfl (wo_run rfl rfl (run_load1 rfl rfl Try.underlying24 rfl (hl.cell S36.um (i := i) (by first | omega | (simp only [List.length_set, List.length_append, List.length_replicate, List.length_singleton, List.length_cons, List.length_nil]; omega)) 0 rfl (congrArg (fun n => some (Value.slice _ n _)) hn5))) ?_)
                      refine wl_op (k := 4) (k' := 5) rfl rfl rfl (wo_run rfl rfl (run_move rfl rfl) ?_)
                      refine wl_op (k := 5) (k' := 6) rfl rfl rfl (wo_run rfl rfl (run_indexM (C := cdVi) j rfl rfl rfl sl24 (by first | rfl | omega) hr5 (by first | omega | (simp only [List.length_set, List.length_append, List.length_replicate, List.length_singleton, List.length_cons, List.length_nil]; omega))) ?_)
                      refine wl_op (k := 6) (k' := 7) rfl rfl rfl (wo_run rfl rfl (run_loadN (us := [_, _]) rfl rfl Try.underlying70 rfl sz70 (hr5.cellsAt S36.um (e := j) (by first | omega | (simp only [List.length_set, List.length_append, List.length_replicate, List.length_singleton, List.length_cons, List.length_nil]; omega)) (j := 0) ⟨rfl, rfl, trivial⟩)) ?_)
                      refine wl_op (k := 7) (k' := 8) rfl rfl rfl (wo_alloc (l := [_, _]) rfl rfl rfl zr70 rfl S36 ?_)
                      intro gb3 w37 S37; clear S36
                      refine wl_op (k := 8) (k' := 9) rfl rfl rfl (wo_storeB (i := 0) (us := [_, _]) (l' := [_, _]) (H' := [_, _, _, _]) rfl rfl S37 rfl rfl rfl rfl sz70 rfl rfl rfl rfl ?_)
                      intro w38 S38; clear S37
                      refine wl_end rfl ?_
                      refine nm_sub [(0, _), (1, _), (2, _), (6, _), (8, _), (9, _), (10, _), (11, _), (12, _), (13, _), (14, _)] ⟨rfl, rfl, rfl, rfl, rfl, rfl, rfl, rfl, rfl, rfl, rfl, trivial⟩ ?_
                      refine nm_thn ?_
                      refine ws_seqN BuildOf_n49 BuildOf_n50 rfl rfl rfl ?_
                      refine ws_seqN BuildOf_n51 BuildOf_n52 rfl rfl rfl ?_
                      refine ws_region rfl ?_
                      refine wl_op (k := 0) (k' := 1) rfl rfl rfl (wo_run rfl rfl (run_fieldAddr rfl rfl Try.underlying70 rfl (ce3) (nf3)) ?_)
                      refine wl_op (k := 1) (k' := 2) rfl rfl rfl (wo_run rfl rfl (run_load1 rfl rfl Try.underlying3 rfl (S38.boxc (i := 0) rfl rfl)) ?_)
                      refine wl_op (k := 2) (k' := 3) rfl rfl rfl (wo_run rfl rfl (run_lss rfl rfl rfl) ?_)
                      refine wl_op (k := 3) (k' := 4) rfl rfl rfl (wo_run rfl rfl (run_move rfl rfl) ?_)
                      refine wl_split (t := 82) rfl (fun hg82 => ?_) (fun hg82 => ?_)
                      · have hg82 := of_decide_eq_true hg82
                        refine wl_no (k := 4) (k' := 5) (d := 83) rfl rfl ⟨_, _, _, rfl, rfl, rfl, rfl⟩ rfl rfl ?_
                        refine wl_no (k := 5) (k' := 6) (d := 84) rfl rfl ⟨_, _, _, rfl, rfl, rfl, rfl⟩ rfl rfl ?_
                        refine wl_no (k := 6) (k' := 7) (d := 85) rfl rfl ⟨_, _, _, rfl, rfl, rfl, rfl⟩ rfl rfl ?_
                        refine wl_no (k := 7) (k' := 8) (d := 86) rfl rfl ⟨_, _, _, rfl, rfl, rfl, rfl⟩ rfl rfl ?_
                        refine wl_op (k := 8) (k' := 9) rfl rfl rfl (wo_run rfl rfl (run_pickT rfl rfl rfl) ?_)
                        refine wl_end rfl ?_
                        refine nm_sub [(0, _), (1, _), (2, _), (6, _), (8, _), (9, _), (10, _), (11, _), (12, _), (13, _), (14, _), (87, _)] ⟨rfl, rfl, rfl, rfl, rfl, rfl, rfl, rfl, rfl, rfl, rfl, rfl, trivial⟩ ?_
                        refine nm_thn ?_
                        refine ws_condTN BuildOf_n53 rfl rfl rfl ?_
                        refine ws_seqN BuildOf_n55 BuildOf_n56 rfl rfl rfl ?_
                        refine ws_region rfl ?_
                        refine wl_op (k := 0) (k' := 1) rfl rfl rfl (wo_run rfl rfl (run_build (l := [_, _]) rfl rfl st27 rfl rfl) ?_)
                        refine wl_op (k := 1) (k' := 2) rfl rfl rfl (wo_storeB (i := 3) (us := [_, _]) (l' := [_, _]) (H' := [_, _, _, _]) rfl rfl S38 rfl rfl rfl rfl sz27 rfl rfl rfl rfl ?_)
                        intro w39 S39; clear S38
                        refine wl_op (k := 2) (k' := 3) rfl rfl rfl (wo_run rfl rfl (run_assign rfl rfl) ?_)
                        refine wl_end rfl ?_
                        refine nm_sub [(6, _), (7, _)] ⟨rfl, rfl, trivial⟩ ?_
                        refine nm_thn ?_
                        refine ws_ret hC [_, _] rfl rfl ⟨⟨_, rfl, loadVarN (us := [_, _]) Try.underlying27 rfl sz27 (S39.boxcs (i := 3) rfl ⟨rfl, rfl, trivial⟩)⟩, rfl, trivial⟩ ?_
                        refine ⟨_, rfl, _, hle1.trans hle14, (S39.pick [] [] (by decide) trivial), ?_⟩
                        have hE : buildE plus.length l loops = 3 := (by have hlv := hdl.1; unfold buildE; rw [if_neg (by omega)]; rw [if_pos (badL_true (i := i) (j := j) (by omega) (by omega) (by omega))])
                        unfold buildR
                        rw [if_pos (by rw [hE]; decide), hE]
                        exact ⟨none, 0, rfl, RdA.nil_⟩
                      · have hg82 := of_decide_eq_false hg82
                        refine wl_opG (k := 4) (k' := 5) rfl rfl ⟨_, _, _, rfl, rfl, rfl, rfl⟩ rfl (wo_run rfl rfl (run_fieldAddr rfl rfl Try.underlying70 rfl (ce3) (nf3)) ?_)
                        refine wl_opG (k := 5) (k' := 6) rfl rfl ⟨_, _, _, rfl, rfl, rfl, rfl⟩ rfl (wo_run rfl rfl (run_load1 rfl rfl Try.underlying3 rfl (S38.boxc (i := 0) rfl rfl)) ?_)
                        refine wl_opG (k := 6) (k' := 7) rfl rfl ⟨_, _, _, rfl, rfl, rfl, rfl⟩ rfl (wo_run rfl rfl (run_move rfl rfl) ?_)
                        refine wl_opG (k := 7) (k' := 8) rfl rfl ⟨_, _, _, rfl, rfl, rfl, rfl⟩ rfl (wo_run rfl rfl (run_geq rfl rfl rfl) ?_)
                        refine wl_op (k := 8) (k' := 9) rfl rfl rfl (wo_run rfl rfl (run_pickF rfl rfl rfl) ?_)
                        refine wl_end rfl ?_
                        refine nm_sub [(0, _), (1, _), (2, _), (6, _), (8, _), (9, _), (10, _), (11, _), (12, _), (13, _), (14, _), (87, _)] ⟨rfl, rfl, rfl, rfl, rfl, rfl, rfl, rfl, rfl, rfl, rfl, rfl, trivial⟩ ?_
                        refine nm_thn ?_
                        refine ws_condN BuildOf_n53 BuildOf_n54 rfl rfl rfl rfl (fun hb87 => ?_) (fun hb87 => ?_)
                        · have hb87 := of_decide_eq_true hb87
                          refine ws_seqN BuildOf_n55 BuildOf_n56 rfl rfl rfl ?_
                          refine ws_region rfl ?_
                          refine wl_op (k := 0) (k' := 1) rfl rfl rfl (wo_run rfl rfl (run_build (l := [_, _]) rfl rfl st27 rfl rfl) ?_)
                          refine wl_op (k := 1) (k' := 2) rfl rfl rfl (wo_storeB (i := 3) (us := [_, _]) (l' := [_, _]) (H' := [_, _, _, _]) rfl rfl S38 rfl rfl rfl rfl sz27 rfl rfl rfl rfl ?_)
                          intro w40 S40; clear S38
                          refine wl_op (k := 2) (k' := 3) rfl rfl rfl (wo_run rfl rfl (run_assign rfl rfl) ?_)
                          refine wl_end rfl ?_
                          refine nm_sub [(6, _), (7, _)] ⟨rfl, rfl, trivial⟩ ?_
                          refine nm_thn ?_
                          refine ws_ret hC [_, _] rfl rfl ⟨⟨_, rfl, loadVarN (us := [_, _]) Try.underlying27 rfl sz27 (S40.boxcs (i := 3) rfl ⟨rfl, rfl, trivial⟩)⟩, rfl, trivial⟩ ?_
                          refine ⟨_, rfl, _, hle1.trans hle14, (S40.pick [] [] (by decide) trivial), ?_⟩
                          have hE : buildE plus.length l loops = 3 := (by have hlv := hdl.1; unfold buildE; rw [if_neg (by omega)]; rw [if_pos (badL_true (i := i) (j := j) (by omega) (by omega) (by omega))])
                          unfold buildR
                          rw [if_pos (by rw [hE]; decide), hE]
                          exact ⟨none, 0, rfl, RdA.nil_⟩
                        · have hb87 := of_decide_eq_false hb87
                          refine ws_skip rfl ?_
                          refine nm_sub [(0, _), (1, _), (2, _), (6, _), (8, _), (9, _), (10, _), (11, _), (12, _), (13, _), (14, _)] ⟨rfl, rfl, rfl, rfl, rfl, rfl, rfl, rfl, rfl, rfl, rfl, trivial⟩ ?_
                          refine nm_thn ?_
                          refine ws_seqN BuildOf_n57 BuildOf_n58 rfl rfl rfl ?_
                          refine ws_region rfl ?_
                          refine wl_op (k := 0) (k' := 1) rfl rfl rfl (wo_run rfl rfl (run_fieldAddr rfl rfl Try.underlying70 rfl (ce4) (nf4)) ?_)
                          refine wl_op (k := 1) (k' := 2) rfl rfl rfl (wo_run rfl rfl (run_load1 rfl rfl Try.underlying4 rfl (S38.boxc (i := 0) rfl rfl)) ?_)
                          refine wl_end rfl ?_
                          refine nm_sub [(0, _), (1, _), (2, _), (6, _), (8, _), (9, _), (10, _), (11, _), (12, _), (13, _), (14, _), (90, _)] ⟨rfl, rfl, rfl, rfl, rfl, rfl, rfl, rfl, rfl, rfl, rfl, rfl, trivial⟩ ?_
                          refine nm_thn ?_
                          refine ws_condN BuildOf_n59 BuildOf_n60 rfl rfl rfl rfl (fun hb90 => ?_) (fun hb90 => ?_)
                          · have hrb2l : rb2.length = plus.length := by rw [hrb2, List.length_map]; exact hcl2
                            have hra2l : ra2.length = plus.length := by rw [hra2, List.length_map]; exact hcl2
                            have hvb := hokj (by omega) (by omega)
                            refine ws_region rfl ?_
                            refine wl_op (k := 0) (k' := 1) rfl rfl rfl (wo_run rfl rfl (run_move rfl rfl) ?_)
                            refine wl_op (k := 1) (k' := 2) rfl rfl rfl (wo_run rfl rfl (run_fieldAddr rfl rfl Try.underlying70 rfl (ce3) (nf3)) ?_)
                            refine wl_op (k := 2) (k' := 3) rfl rfl rfl (wo_run rfl rfl (run_load1 rfl rfl Try.underlying3 rfl (S38.boxc (i := 0) rfl rfl)) ?_)
                            refine wl_op (k := 3) (k' := 4) rfl rfl rfl (wo_run rfl rfl (run_indexR (C := cdInt) (i := 1) (((ga (ga l i) j).c).toNat) rfl rfl rfl sl44 S38 rfl (by first | rfl | omega) (by first | omega | (simp only [List.length_set, List.length_append, List.length_replicate, List.length_singleton, List.length_cons, List.length_nil]; omega))) ?_)
                            refine wl_op (k := 4) (k' := 5) rfl rfl rfl (wo_run rfl rfl (run_load1 rfl rfl Try.underlying3 rfl (S38.rowc (i := 1) (e := ((ga (ga l i) j).c).toNat) (j := 0) rfl (by first | omega | (simp only [List.length_set, List.length_append, List.length_replicate, List.length_singleton, List.length_cons, List.length_nil]; omega)) rfl rfl)) ?_)
                            refine wl_op (k := 5) (k' := 6) rfl rfl rfl (wo_run rfl rfl (run_addW rfl rfl rfl) ?_)
                            refine wl_op (k := 6) (k' := 7) rfl rfl rfl (wo_run rfl rfl (run_indexR (C := cdInt) (i := 1) (((ga (ga l i) j).c).toNat) rfl rfl rfl sl44 S38 rfl (by first | rfl | omega) (by first | omega | (simp only [List.length_set, List.length_append, List.length_replicate, List.length_singleton, List.length_cons, List.length_nil]; omega))) ?_)
                            refine wl_op (k := 7) (k' := 8) rfl rfl rfl (wo_storeR (C := cdInt) (i := 1) (e := ((ga (ga l i) j).c).toNat) (j := 0) (us := [_]) (H' := [_, _, _, _]) (wr ((ga rb2 (((ga (ga l i) j).c).toNat)) + 1)) rfl rfl S38 rfl (by first | omega | (simp only [List.length_set, List.length_append, List.length_replicate, List.length_singleton, List.length_cons, List.length_nil]; omega)) rfl rfl rfl sz3 rfl rfl rfl rfl ?_)
                            intro w41 S41; clear S38
                            refine wl_end rfl ?_
                            refine nm_blk ?_
                            refine nm_sub [(0, _), (1, _), (2, _), (6, _), (8, _), (9, _), (10, _), (11, _), (12, _), (13, _)] ⟨rfl, rfl, rfl, rfl, rfl, rfl, rfl, rfl, rfl, rfl, trivial⟩ ?_
                            refine nm_thn ?_
                            refine ws_region rfl ?_
                            refine wl_op (k := 0) (k' := 1) rfl rfl rfl (wo_run rfl rfl (run_move rfl rfl) ?_)
                            refine wl_op (k := 1) (k' := 2) rfl rfl rfl (wo_run rfl rfl (run_add rfl rfl rfl (by first | omega | (simp only [List.length_set, List.length_append, List.length_replicate, List.length_singleton, List.length_cons, List.length_nil]; omega))) ?_)
                            refine wl_op (k := 2) (k' := 3) rfl rfl rfl (wo_run rfl rfl (run_assign rfl rfl) ?_)
                            refine wl_end rfl ?_
                            refine nm_lp ?_
                            intro ax_ hax_
                            refine ⟨_, ?hq11m, ⟨j + 1, (bump cs2 (ga (ga l i) j)), _, _, _, _, rfl, hax_.sub ⟨rfl, rfl, rfl, rfl, rfl, rfl, rfl, rfl, rfl, rfl, trivial⟩, S41.pick [1, 2, 3] [_, _, _] (by decide) ⟨rfl, rfl, rfl, trivial⟩, ?hq11f0, ?hq11f1, ?hq11f2, ?hq11f3, ?hq11f4, ?hq11f5⟩⟩
                            case hq11f0 => omega
                            case hq11f1 => (intro q hq; by_cases h : q = j; (subst h; omega); exact hokp q (by omega))
                            case hq11f2 => (rw [cntP_succ, ← hcs2])
                            case hq11f3 => (rw [bump_len]; exact hcl2)
                            case hq11f4 => (subst hrb2 hra2; first | exact (bump_bT hb90 (by omega)).1 | exact (bump_bF hb90 (by omega)).2)
                            case hq11f5 => (subst hrb2 hra2; first | exact (bump_bT hb90 (by omega)).2 | exact (bump_bF hb90 (by omega)).1)
                            case hq11m => omega
                          · have hrb2l : rb2.length = plus.length := by rw [hrb2, List.length_map]; exact hcl2
                            have hra2l : ra2.length = plus.length := by rw [hra2, List.length_map]; exact hcl2
                            have hvb := hokj (by omega) (by omega)
                            refine ws_region rfl ?_
                            refine wl_op (k := 0) (k' := 1) rfl rfl rfl (wo_run rfl rfl (run_move rfl rfl) ?_)
                            refine wl_op (k := 1) (k' := 2) rfl rfl rfl (wo_run rfl rfl (run_fieldAddr rfl rfl Try.underlying70 rfl (ce3) (nf3)) ?_)
                            refine wl_op (k := 2) (k' := 3) rfl rfl rfl (wo_run rfl rfl (run_load1 rfl rfl Try.underlying3 rfl (S38.boxc (i := 0) rfl rfl)) ?_)
                            refine wl_op (k := 3) (k' := 4) rfl rfl rfl (wo_run rfl rfl (run_indexR (C := cdInt) (i := 2) (((ga (ga l i) j).c).toNat) rfl rfl rfl sl44 S38 rfl (by first | rfl | omega) (by first | omega | (simp only [List.length_set, List.length_append, List.length_replicate, List.length_singleton, List.length_cons, List.length_nil]; omega))) ?_)
                            refine wl_op (k := 4) (k' := 5) rfl rfl rfl (wo_run rfl rfl (run_load1 rfl rfl Try.underlying3 rfl (S38.rowc (i := 2) (e := ((ga (ga l i) j).c).toNat) (j := 0) rfl (by first | omega | (simp only [List.length_set, List.length_append, List.length_replicate, List.length_singleton, List.length_cons, List.length_nil]; omega)) rfl rfl)) ?_)
                            refine wl_op (k := 5) (k' := 6) rfl rfl rfl (wo_run rfl rfl (run_addW rfl rfl rfl) ?_)
                            refine wl_op (k := 6) (k' := 7) rfl rfl rfl (wo_run rfl rfl (run_indexR (C := cdInt) (i := 2) (((ga (ga l i) j).c).toNat) rfl rfl rfl sl44 S38 rfl (by first | rfl | omega) (by first | omega | (simp only [List.length_set, List.length_append, List.length_replicate, List.length_singleton, List.length_cons, List.length_nil]; omega))) ?_)
                            refine wl_op (k := 7) (k' := 8) rfl rfl rfl (wo_storeR (C := cdInt) (i := 2) (e := ((ga (ga l i) j).c).toNat) (j := 0) (us := [_]) (H' := [_, _, _, _]) (wr ((ga ra2 (((ga (ga l i) j).c).toNat)) + 1)) rfl rfl S38 rfl (by first | omega | (simp only [List.length_set, List.length_append, List.length_replicate, List.length_singleton, List.length_cons, List.length_nil]; omega)) rfl rfl rfl sz3 rfl rfl rfl rfl ?_)
                            intro w42 S42; clear S38
                            refine wl_end rfl ?_
                            refine nm_blk ?_
                            refine nm_sub [(0, _), (1, _), (2, _), (6, _), (8, _), (9, _), (10, _), (11, _), (12, _), (13, _)] ⟨rfl, rfl, rfl, rfl, rfl, rfl, rfl, rfl, rfl, rfl, trivial⟩ ?_
                            refine nm_thn ?_
                            refine ws_region rfl ?_
                            refine wl_op (k := 0) (k' := 1) rfl rfl rfl (wo_run rfl rfl (run_move rfl rfl) ?_)
                            refine wl_op (k := 1) (k' := 2) rfl rfl rfl (wo_run rfl rfl (run_add rfl rfl rfl (by first | omega | (simp only [List.length_set, List.length_append, List.length_replicate, List.length_singleton, List.length_cons, List.length_nil]; omega))) ?_)
                            refine wl_op (k := 2) (k' := 3) rfl rfl rfl (wo_run rfl rfl (run_assign rfl rfl) ?_)
                            refine wl_end rfl ?_
                            refine nm_lp ?_
                            intro ax_ hax_
                            refine ⟨_, ?hq12m, ⟨j + 1, (bump cs2 (ga (ga l i) j)), _, _, _, _, rfl, hax_.sub ⟨rfl, rfl, rfl, rfl, rfl, rfl, rfl, rfl, rfl, rfl, trivial⟩, S42.pick [1, 2, 3] [_, _, _] (by decide) ⟨rfl, rfl, rfl, trivial⟩, ?hq12f0, ?hq12f1, ?hq12f2, ?hq12f3, ?hq12f4, ?hq12f5⟩⟩
                            case hq12f0 => omega
                            case hq12f1 => (intro q hq; by_cases h : q = j; (subst h; omega); exact hokp q (by omega))
                            case hq12f2 => (rw [cntP_succ, ← hcs2])
                            case hq12f3 => (rw [bump_len]; exact hcl2)
                            case hq12f4 => (subst hrb2 hra2; first | exact (bump_bT hb90 (by omega)).1 | exact (bump_bF hb90 (by omega)).2)
                            case hq12f5 => (subst hrb2 hra2; first | exact (bump_bT hb90 (by omega)).2 | exact (bump_bF hb90 (by omega)).1)
                            case hq12m => omega
                    · have hb69 := of_decide_eq_false hb69
                      refine ws_exit rfl rfl ?_
                      refine nm_blk ?_
                      refine nm_sub [(0, _), (1, _), (2, _), (6, _), (8, _), (9, _), (10, _), (11, _), (12, _)] ⟨rfl, rfl, rfl, rfl, rfl, rfl, rfl, rfl, rfl, trivial⟩ ?_
                      refine nm_thn ?_
                      refine ws_region rfl ?_
                      refine wl_op (k := 0) (k' := 1) rfl rfl rfl (wo_run rfl rfl (run_move rfl rfl) ?_)
                      refine wl_op (k := 1) (k' := 2) rfl rfl rfl (wo_run rfl rfl (run_add rfl rfl rfl (by first | omega | (simp only [List.length_set, List.length_append, List.length_replicate, List.length_singleton, List.length_cons, List.length_nil]; omega))) ?_)
                      refine wl_op (k := 2) (k' := 3) rfl rfl rfl (wo_run rfl rfl (run_assign rfl rfl) ?_)
                      refine wl_end rfl ?_
                      refine nm_lp ?_
                      intro ax_ hax_
                      refine ⟨_, ?hq13m, ⟨i + 1, _, cs2, _, _, _, _, rfl, hax_.sub ⟨rfl, rfl, rfl, rfl, rfl, rfl, rfl, rfl, rfl, trivial⟩, S36.pick [0, 1, 2] [_, _, _] (by decide) ⟨rfl, rfl, rfl, trivial⟩, ?hq13f0, ?hq13f1, ?hq13f2, ?hq13f3, ?hq13f4, ?hq13f5, ?hq13f6⟩⟩
                      case hq13f0 => omega
                      case hq13f1 => (intro q hq; by_cases h : q = i; (subst h; obtain rfl : j = (ga l q).length := (by omega); exact hokp); exact hok q (by omega))
                      case hq13f2 => (rw [emT_succ, ← hem]; first | (rw [hg55]; done) | (rw [hg55]; rfl))
                      case hq13f3 => (rw [cntL_succ, ← hcs]; obtain rfl : j = (ga l i).length := (by omega); exact hcs2)
                      case hq13f4 => assumption
                      case hq13f5 => assumption
                      case hq13f6 => assumption
                      case hq13m => omega
              · have hb51 := of_decide_eq_false hb51
                have hlv1 := hdl.1
                obtain rfl : i = l.length := by omega
                have hokl := hok
                refine ws_exit rfl rfl ?_
                refine nm_sub [(0, _), (1, _), (2, _), (6, _), (8, _), (9, _), (10, _), (11, _)] ⟨rfl, rfl, rfl, rfl, rfl, rfl, rfl, rfl, trivial⟩ ?_
                refine nm_thn ?_
                refine ws_seqN BuildOf_n61 BuildOf_n62 rfl rfl rfl ?_
                refine ws_seqN BuildOf_n63 BuildOf_n64 rfl rfl rfl ?_
                refine ws_region rfl ?_
                refine wl_op (k := 0) (k' := 1) rfl rfl rfl (wo_run rfl rfl (run_assign rfl rfl) ?_)
                refine wl_end rfl ?_
                refine nm_thn ?_
                refine ws_blockN BuildOf_n65 4 rfl rfl rfl ?_
                refine ws_loopE (fun mx_ ax_ wx_ => ∃ (c : Nat), mx_ = plus.length - c ∧ Env 215 [(0, .slice lA lv.length lc), (1, .slice plusA plus.length plusc), (2, .int .i64 loops), (6, .pointer (some ⟨gb1, 0, none⟩)), (8, .int .i64 (plus.length : Int)), (9, vr9), (10, vr10), (11, .bool em), (15, .int .i64 (c : Int))] ax_ ∧ SH wx_ M14 X [Rs.row cdInt vr9 rb, Rs.row cdInt vr10 ra, Rs.box gb1 27 [.slice none 0 0, .int .i64 0]] ∧ c ≤ plus.length ∧ (∀ j, j < c → oneI (ga cs j))) rfl ?_ ?_
                · intro ax_ hax_
                  refine ⟨_, ⟨0, rfl, hax_.sub ⟨rfl, rfl, rfl, rfl, rfl, rfl, rfl, rfl, rfl, trivial⟩, S28.pick [0, 1, 2] [_, _, _] (by decide) ⟨rfl, rfl, rfl, trivial⟩, ?hq14f0, ?hq14f1⟩⟩
                  case hq14f0 => omega
                  case hq14f1 => (intro j hj; omega)
                · rintro m4 a6 w43 ⟨c, rfl, he6, S43, hc, hone⟩
                  clear S28
                  refine ws_in he6 (c := BuildOf_n66) rfl ?_
                  clear he6 a6
                  have hrbl : rb.length = plus.length := by rw [hrb, List.length_map]; exact hcl
                  have hral : ra.length = plus.length := by rw [hra, List.length_map]; exact hcl
                  have hrbc : c < plus.length → ga rb c = (ga cs c).b ∧ ga ra c = (ga cs c).a := fun h => by rw [hrb, hra, ga_map _ _ _ (by omega), ga_map _ _ _ (by omega)]; exact ⟨rfl, rfl⟩
                  refine ws_seqN BuildOf_n67 BuildOf_n68 rfl rfl rfl ?_
                  refine ws_seqN BuildOf_n69 BuildOf_n70 rfl rfl rfl ?_
                  refine ws_region rfl ?_
                  refine wl_op (k := 0) (k' := 1) rfl rfl rfl (wo_run rfl rfl (run_move rfl rfl) ?_)
                  refine wl_op (k := 1) (k' := 2) rfl rfl rfl (wo_run rfl rfl (run_move rfl rfl) ?_)
                  refine wl_op (k := 2) (k' := 3) rfl rfl rfl (wo_run rfl rfl (run_lss rfl rfl rfl) ?_)
                  refine wl_end rfl ?_
                  refine nm_sub [(0, _), (1, _), (2, _), (6, _), (8, _), (9, _), (10, _), (11, _), (15, _), (107, _)] ⟨rfl, rfl, rfl, rfl, rfl, rfl, rfl, rfl, rfl, rfl, trivial⟩ ?_
                  refine nm_thn ?_
                  refine ws_condN BuildOf_n71 BuildOf_n72 rfl rfl rfl rfl (fun hb107 => ?_) (fun hb107 => ?_)
                  · have hb107 := of_decide_eq_true hb107
                    refine ws_skip rfl ?_
                    refine nm_sub [(0, _), (1, _), (2, _), (6, _), (8, _), (9, _), (10, _), (11, _), (15, _)] ⟨rfl, rfl, rfl, rfl, rfl, rfl, rfl, rfl, rfl, trivial⟩ ?_
                    refine nm_thn ?_
                    refine ws_seqN BuildOf_n73 BuildOf_n74 rfl rfl rfl ?_
                    refine ws_blockN BuildOf_n75 5 rfl rfl rfl ?_
                    refine ws_seqN BuildOf_n76 BuildOf_n77 rfl rfl rfl ?_
                    refine ws_region rfl ?_
                    refine wl_op (k := 0) (k' := 1) rfl rfl rfl (wo_run rfl rfl (run_move rfl rfl) ?_)
                    refine wl_op (k := 1) (k' := 2) rfl rfl rfl (wo_run rfl rfl (run_move rfl rfl) ?_)
                    refine wl_op (k := 2) (k' := 3) rfl rfl rfl (wo_run rfl rfl (run_indexR (C := cdInt) (i := 0) c rfl rfl rfl sl44 S43 rfl (by first | rfl | omega) (by first | omega | (simp only [List.length_set, List.length_append, List.length_replicate, List.length_singleton, List.length_cons, List.length_nil]; omega))) ?_)
                    refine wl_op (k := 3) (k' := 4) rfl rfl rfl (wo_run rfl rfl (run_load1 rfl rfl Try.underlying3 rfl (S43.rowc (i := 0) (e := c) (j := 0) rfl (by first | omega | (simp only [List.length_set, List.length_append, List.length_replicate, List.length_singleton, List.length_cons, List.length_nil]; omega)) rfl rfl)) ?_)
                    refine wl_op (k := 4) (k' := 5) rfl rfl rfl (wo_run rfl rfl (run_neq rfl rfl rfl) ?_)
                    refine wl_op (k := 5) (k' := 6) rfl rfl rfl (wo_run rfl rfl (run_move rfl rfl) ?_)
                    refine wl_split (t := 115) rfl (fun hg115 => ?_) (fun hg115 => ?_)
                    · have hg115 := of_decide_eq_true hg115
                      have hnone : ¬ oneI (ga cs c) := by have h9 := hrbc (by omega); unfold oneI; omega
                      refine wl_no (k := 6) (k' := 7) (d := 116) rfl rfl ⟨_, _, _, rfl, rfl, rfl, rfl⟩ rfl rfl ?_
                      refine wl_no (k := 7) (k' := 8) (d := 117) rfl rfl ⟨_, _, _, rfl, rfl, rfl, rfl⟩ rfl rfl ?_
                      refine wl_no (k := 8) (k' := 9) (d := 118) rfl rfl ⟨_, _, _, rfl, rfl, rfl, rfl⟩ rfl rfl ?_
                      refine wl_no (k := 9) (k' := 10) (d := 119) rfl rfl ⟨_, _, _, rfl, rfl, rfl, rfl⟩ rfl rfl ?_
                      refine wl_no (k := 10) (k' := 11) (d := 120) rfl rfl ⟨_, _, _, rfl, rfl, rfl, rfl⟩ rfl rfl ?_
                      refine wl_op (k := 11) (k' := 12) rfl rfl rfl (wo_run rfl rfl (run_pickT rfl rfl rfl) ?_)
                      refine wl_end rfl ?_
                      refine nm_sub [(0, _), (1, _), (2, _), (6, _), (8, _), (9, _), (10, _), (11, _), (15, _), (121, _)] ⟨rfl, rfl, rfl, rfl, rfl, rfl, rfl, rfl, rfl, rfl, trivial⟩ ?_
                      refine nm_thn ?_
                      refine ws_condTN BuildOf_n78 rfl rfl rfl ?_
                      refine ws_seqN BuildOf_n80 BuildOf_n81 rfl rfl rfl ?_
                      refine ws_region rfl ?_
                      refine wl_op (k := 0) (k' := 1) rfl rfl rfl (wo_run rfl rfl (run_build (l := [_, _]) rfl rfl st27 rfl rfl) ?_)
                      refine wl_op (k := 1) (k' := 2) rfl rfl rfl (wo_storeB (i := 2) (us := [_, _]) (l' := [_, _]) (H' := [_, _, _]) rfl rfl S43 rfl rfl rfl rfl sz27 rfl rfl rfl rfl ?_)
                      intro w44 S44; clear S43
                      refine wl_op (k := 2) (k' := 3) rfl rfl rfl (wo_run rfl rfl (run_assign rfl rfl) ?_)
                      refine wl_end rfl ?_
                      refine nm_sub [(6, _), (7, _)] ⟨rfl, rfl, trivial⟩ ?_
                      refine nm_thn ?_
                      refine ws_ret hC [_, _] rfl rfl ⟨⟨_, rfl, loadVarN (us := [_, _]) Try.underlying27 rfl sz27 (S44.boxcs (i := 2) rfl ⟨rfl, rfl, trivial⟩)⟩, rfl, trivial⟩ ?_
                      refine ⟨_, rfl, _, hle1.trans hle14, (S44.pick [] [] (by decide) trivial), ?_⟩
                      have hE : buildE plus.length l loops = 10 := (by have hlv := hdl.1; unfold buildE; rw [if_neg (by omega)]; rw [if_neg (by rw [badL_false hokl]; exact Bool.false_ne_true)]; rw [if_pos (by unfold twB; rw [← hcs]; exact allI_false (k := c) (by omega) hnone)])
                      unfold buildR
                      rw [if_pos (by rw [hE]; decide), hE]
                      exact ⟨none, 0, rfl, RdA.nil_⟩
                    · have hg115 := of_decide_eq_false hg115
                      refine wl_opG (k := 6) (k' := 7) rfl rfl ⟨_, _, _, rfl, rfl, rfl, rfl⟩ rfl (wo_run rfl rfl (run_move rfl rfl) ?_)
                      refine wl_opG (k := 7) (k' := 8) rfl rfl ⟨_, _, _, rfl, rfl, rfl, rfl⟩ rfl (wo_run rfl rfl (run_move rfl rfl) ?_)
                      refine wl_opG (k := 8) (k' := 9) rfl rfl ⟨_, _, _, rfl, rfl, rfl, rfl⟩ rfl (wo_run rfl rfl (run_indexR (C := cdInt) (i := 1) c rfl rfl rfl sl44 S43 rfl (by first | rfl | omega) (by first | omega | (simp only [List.length_set, List.length_append, List.length_replicate, List.length_singleton, List.length_cons, List.length_nil]; omega))) ?_)
                      refine wl_opG (k := 9) (k' := 10) rfl rfl ⟨_, _, _, rfl, rfl, rfl, rfl⟩ rfl (wo_run rfl rfl (run_load1 rfl rfl Try.underlying3 rfl (S43.rowc (i := 1) (e := c) (j := 0) rfl (by first | omega | (simp only [List.length_set, List.length_append, List.length_replicate, List.length_singleton, List.length_cons, List.length_nil]; omega)) rfl rfl)) ?_)
                      refine wl_opG (k := 10) (k' := 11) rfl rfl ⟨_, _, _, rfl, rfl, rfl, rfl⟩ rfl (wo_run rfl rfl (run_neq rfl rfl rfl) ?_)
                      refine wl_op (k := 11) (k' := 12) rfl rfl rfl (wo_run rfl rfl (run_pickF rfl rfl rfl) ?_)
                      refine wl_end rfl ?_
                      refine nm_sub [(0, _), (1, _), (2, _), (6, _), (8, _), (9, _), (10, _), (11, _), (15, _), (121, _)] ⟨rfl, rfl, rfl, rfl, rfl, rfl, rfl, rfl, rfl, rfl, trivial⟩ ?_
                      refine nm_thn ?_
                      refine ws_condN BuildOf_n78 BuildOf_n79 rfl rfl rfl rfl (fun hb121 => ?_) (fun hb121 => ?_)
                      · have hb121 := of_decide_eq_true hb121
                        have hnone : ¬ oneI (ga cs c) := by have h9 := hrbc (by omega); unfold oneI; omega
                        refine ws_seqN BuildOf_n80 BuildOf_n81 rfl rfl rfl ?_
                        refine ws_region rfl ?_
                        refine wl_op (k := 0) (k' := 1) rfl rfl rfl (wo_run rfl rfl (run_build (l := [_, _]) rfl rfl st27 rfl rfl) ?_)
                        refine wl_op (k := 1) (k' := 2) rfl rfl rfl (wo_storeB (i := 2) (us := [_, _]) (l' := [_, _]) (H' := [_, _, _]) rfl rfl S43 rfl rfl rfl rfl sz27 rfl rfl rfl rfl ?_)
                        intro w45 S45; clear S43
                        refine wl_op (k := 2) (k' := 3) rfl rfl rfl (wo_run rfl rfl (run_assign rfl rfl) ?_)
                        refine wl_end rfl ?_
                        refine nm_sub [(6, _), (7, _)] ⟨rfl, rfl, trivial⟩ ?_
                        refine nm_thn ?_
                        refine ws_ret hC [_, _] rfl rfl ⟨⟨_, rfl, loadVarN (us := [_, _]) Try.underlying27 rfl sz27 (S45.boxcs (i := 2) rfl ⟨rfl, rfl, trivial⟩)⟩, rfl, trivial⟩ ?_
                        refine ⟨_, rfl, _, hle1.trans hle14, (S45.pick [] [] (by decide) trivial), ?_⟩
                        have hE : buildE plus.length l loops = 10 := (by have hlv := hdl.1; unfold buildE; rw [if_neg (by omega)]; rw [if_neg (by rw [badL_false hokl]; exact Bool.false_ne_true)]; rw [if_pos (by unfold twB; rw [← hcs]; exact allI_false (k := c) (by omega) hnone)])
                        unfold buildR
                        rw [if_pos (by rw [hE]; decide), hE]
                        exact ⟨none, 0, rfl, RdA.nil_⟩
                      · have hb121 := of_decide_eq_false hb121
                        refine ws_skip rfl ?_
                        refine nm_blk ?_
                        refine nm_sub [(0, _), (1, _), (2, _), (6, _), (8, _), (9, _), (10, _), (11, _), (15, _)] ⟨rfl, rfl, rfl, rfl, rfl, rfl, rfl, rfl, rfl, trivial⟩ ?_
                        refine nm_thn ?_
                        refine ws_region rfl ?_
                        refine wl_op (k := 0) (k' := 1) rfl rfl rfl (wo_run rfl rfl (run_move rfl rfl) ?_)
                        refine wl_op (k := 1) (k' := 2) rfl rfl rfl (wo_run rfl rfl (run_add rfl rfl rfl (by first | omega | (simp only [List.length_set, List.length_append, List.length_replicate, List.length_singleton, List.length_cons, List.length_nil]; omega))) ?_)
                        refine wl_op (k := 2) (k' := 3) rfl rfl rfl (wo_run rfl rfl (run_assign rfl rfl) ?_)
                        refine wl_end rfl ?_
                        refine nm_lp ?_
                        intro ax_ hax_
                        refine ⟨_, ?hq15m, ⟨c + 1, rfl, hax_.sub ⟨rfl, rfl, rfl, rfl, rfl, rfl, rfl, rfl, rfl, trivial⟩, S43.pick [0, 1, 2] [_, _, _] (by decide) ⟨rfl, rfl, rfl, trivial⟩, ?hq15f0, ?hq15f1⟩⟩
                        case hq15f0 => omega
                        case hq15f1 => (intro j hj; have h9 := hrbc (by omega); by_cases h : j = c; (subst h; unfold oneI; omega); exact hone j (by omega))
                        case hq15m => omega
                  · have hb107 := of_decide_eq_false hb107
                    refine ws_exit rfl rfl ?_
                    refine nm_sub [(0, _), (1, _), (2, _), (6, _), (8, _), (11, _)] ⟨rfl, rfl, rfl, rfl, rfl, rfl, trivial⟩ ?_
                    refine nm_thn ?_
                    refine ws_seqN BuildOf_n82 BuildOf_n83 rfl rfl rfl ?_
                    refine ws_seqN BuildOf_n84 BuildOf_n85 rfl rfl rfl ?_
                    refine ws_region rfl ?_
                    refine wl_op (k := 0) (k' := 1) rfl rfl rfl (wo_run rfl rfl (run_move rfl rfl) ?_)
                    refine wl_end rfl ?_
                    refine nm_sub [(0, _), (1, _), (2, _), (6, _), (8, _), (123, _)] ⟨rfl, rfl, rfl, rfl, rfl, rfl, trivial⟩ ?_
                    refine nm_thn ?_
                    refine ws_condN BuildOf_n86 BuildOf_n87 rfl rfl rfl rfl (fun hb123 => ?_) (fun hb123 => ?_)
                    · refine ws_seqN BuildOf_n88 BuildOf_n89 rfl rfl rfl ?_
                      refine ws_region rfl ?_
                      refine wl_op (k := 0) (k' := 1) rfl rfl rfl (wo_run rfl rfl (run_build (l := [_, _]) rfl rfl st27 rfl rfl) ?_)
                      refine wl_op (k := 1) (k' := 2) rfl rfl rfl (wo_storeB (i := 2) (us := [_, _]) (l' := [_, _]) (H' := [_, _, _]) rfl rfl S43 rfl rfl rfl rfl sz27 rfl rfl rfl rfl ?_)
                      intro w46 S46; clear S43
                      refine wl_op (k := 2) (k' := 3) rfl rfl rfl (wo_run rfl rfl (run_assign rfl rfl) ?_)
                      refine wl_end rfl ?_
                      refine nm_sub [(6, _), (7, _)] ⟨rfl, rfl, trivial⟩ ?_
                      refine nm_thn ?_
                      refine ws_ret hC [_, _] rfl rfl ⟨⟨_, rfl, loadVarN (us := [_, _]) Try.underlying27 rfl sz27 (S46.boxcs (i := 2) rfl ⟨rfl, rfl, trivial⟩)⟩, rfl, trivial⟩ ?_
                      refine ⟨_, rfl, _, hle1.trans hle14, (S46.pick [] [] (by decide) trivial), ?_⟩
                      have hE : buildE plus.length l loops = 7 := (by have hlv := hdl.1; unfold buildE; rw [if_neg (by omega)]; rw [if_neg (by rw [badL_false hokl]; exact Bool.false_ne_true)]; rw [if_neg (by unfold twB; rw [← hcs, allI_true (fun q hq => hone q (by omega))]; simp)]; rw [if_pos (by rw [← hem]; exact hb123)])
                      unfold buildR
                      rw [if_pos (by rw [hE]; decide), hE]
                      exact ⟨none, 0, rfl, RdA.nil_⟩
                    · refine ws_skip rfl ?_
                      refine nm_sub [(0, _), (1, _), (2, _), (6, _), (8, _)] ⟨rfl, rfl, rfl, rfl, rfl, trivial⟩ ?_
                      refine nm_thn ?_
                      refine ws_seqN BuildOf_n90 BuildOf_n91 rfl rfl rfl ?_
                      refine ws_region rfl ?_
                      refine wl_op (k := 0) (k' := 1) rfl rfl rfl (wo_run rfl rfl (run_move rfl rfl) ?_)
                      refine wl_op (k := 1) (k' := 2) rfl rfl rfl (wo_run rfl rfl (run_build (l := [_, _]) rfl rfl st27 rfl rfl) ?_)
                      refine wl_op (k := 2) (k' := 3) rfl rfl rfl (wo_alloc (l := [_, _]) rfl rfl rfl zr27 rfl S43 ?_)
                      intro gb4 w47 S47; clear S43
                      refine wl_op (k := 3) (k' := 4) rfl rfl rfl (wo_storeB (i := 0) (us := [_, _]) (l' := [_, _]) (H' := [_, _, _, _]) rfl rfl S47 rfl rfl rfl rfl sz27 rfl rfl rfl rfl ?_)
                      intro w48 S48; clear S47
                      refine wl_end rfl ?_
                      refine nm_sub [(0, _), (1, _), (6, _), (8, _), (16, _)] ⟨rfl, rfl, rfl, rfl, rfl, trivial⟩ ?_
                      refine nm_thn ?_
                      refine ws_seqN BuildOf_n92 BuildOf_n93 rfl rfl rfl ?_
                      refine ws_seqN BuildOf_n94 BuildOf_n95 rfl rfl rfl ?_
                      refine ws_region rfl ?_
                      refine wl_op (k := 0) (k' := 1) rfl rfl rfl (wo_run rfl rfl (run_assign rfl rfl) ?_)
                      refine wl_end rfl ?_
                      refine nm_thn ?_
                      refine ws_blockN BuildOf_n96 6 rfl rfl rfl ?_
                      have S49 := S48.nilrow cdCr; clear S48
                      refine ws_loopE (fun mx_ ax_ wx_ => ∃ (k : Nat) (acc : List Cr) (vro : Value), mx_ = plus.length - k ∧ Env 215 [(0, .slice lA lv.length lc), (1, .slice plusA plus.length plusc), (6, .pointer (some ⟨gb1, 0, none⟩)), (8, .int .i64 (plus.length : Int)), (16, .pointer (some ⟨gb4, 0, none⟩)), (17, .int .i64 (k : Int))] ax_ ∧ SH wx_ M14 X [Rs.row cdCr vro acc, Rs.box gb4 27 [vro, .int .i64 loops], Rs.box gb1 27 [.slice none 0 0, .int .i64 0]] ∧ k ≤ plus.length ∧ acc = crsL plus (ba0 plus.length) k) rfl ?_ ?_
                      · intro ax_ hax_
                        refine ⟨_, ⟨0, _, _, rfl, hax_.sub ⟨rfl, rfl, rfl, rfl, rfl, rfl, trivial⟩, S49.pick [0, 1, 4] [_, _, _] (by decide) ⟨rfl, rfl, rfl, trivial⟩, ?hq16f0, ?hq16f1⟩⟩
                        case hq16f0 => omega
                        case hq16f1 => rfl
                      · rintro m5 a7 w49 ⟨k, acc, vro, rfl, he7, S50, hk, hacc⟩
                        clear S49
                        refine ws_in he7 (c := BuildOf_n97) rfl ?_
                        clear he7 a7
                        have hal : acc.length = k := by rw [hacc]; exact crsL_len _ _ _
                        refine ws_seqN BuildOf_n98 BuildOf_n99 rfl rfl rfl ?_
                        refine ws_seqN BuildOf_n100 BuildOf_n101 rfl rfl rfl ?_
                        refine ws_region rfl ?_
                        refine wl_op (k := 0) (k' := 1) rfl rfl rfl (wo_run rfl rfl (run_move rfl rfl) ?_)
                        refine wl_op (k := 1) (k' := 2) rfl rfl rfl (wo_run rfl rfl (run_move rfl rfl) ?_)
                        refine wl_op (k := 2) (k' := 3) rfl rfl rfl (wo_run rfl rfl (run_lss rfl rfl rfl) ?_)
                        refine wl_end rfl ?_
                        refine nm_sub [(0, _), (1, _), (6, _), (8, _), (16, _), (17, _), (129, _)] ⟨rfl, rfl, rfl, rfl, rfl, rfl, rfl, trivial⟩ ?_
                        refine nm_thn ?_
                        refine ws_condN BuildOf_n102 BuildOf_n103 rfl rfl rfl rfl (fun hb129 => ?_) (fun hb129 => ?_)
                        · have hb129 := of_decide_eq_true hb129
                          refine ws_skip rfl ?_
                          refine nm_sub [(0, _), (1, _), (6, _), (8, _), (16, _), (17, _)] ⟨rfl, rfl, rfl, rfl, rfl, rfl, trivial⟩ ?_
                          refine nm_thn ?_
                          refine ws_seqN BuildOf_n104 BuildOf_n105 rfl rfl rfl ?_
                          refine ws_blockN BuildOf_n106 7 rfl rfl rfl ?_
                          refine ws_draw rfl (by kernel_rfl) S50 11 rfl ?_
                          clear S50
                          refine wa_takeP (i := 0) (d := 132) 10 rfl (by kernel_rfl) (by kernel_rfl) (by kernel_rfl) rfl rfl rfl (fun w50 => run_fieldAddr rfl rfl Try.underlying27 rfl (ce25) (nf25)) ?_
                          refine wa_take (i := 1) (d := 133) 9 rfl (by kernel_rfl) (by kernel_rfl) (by kernel_rfl) rfl rfl rfl (fun M16 N14 w51 hle21 S52 => .inl (run_load1 rfl rfl Try.underlying25 rfl (S52.suf.boxc (i := 1) rfl rfl))) ?_
                          refine wa_takeP (i := 2) (d := 134) 8 rfl (by kernel_rfl) (by kernel_rfl) (by kernel_rfl) rfl rfl rfl (fun w52 => run_move rfl rfl) ?_
                          refine wa_takeP (i := 3) (d := 135) 7 rfl (by kernel_rfl) (by kernel_rfl) (by kernel_rfl) rfl rfl rfl (fun w53 => run_move rfl rfl) ?_
                          refine wa_take (i := 4) (d := 136) 6 rfl (by kernel_rfl) (by kernel_rfl) (by kernel_rfl) rfl rfl rfl (fun M19 N17 w54 hle24 S55 => .inl (run_indexM (C := cdBool) k rfl rfl rfl sl23 (by first | rfl | omega) (hplus.mono (Hp.un_mono hle24 S55.mx)) (by first | omega | (simp only [List.length_set, List.length_append, List.length_replicate, List.length_singleton, List.length_cons, List.length_nil]; omega)))) ?_
                          refine wa_take (i := 5) (d := 137) 5 rfl (by kernel_rfl) (by kernel_rfl) (by kernel_rfl) rfl rfl rfl (fun M20 N18 w55 hle25 S56 => .inl (run_load1 rfl rfl Try.underlying4 rfl ((hplus.mono (Hp.un_mono hle25 S56.mx)).cell S56.um (i := k) (by first | omega | (simp only [List.length_set, List.length_append, List.length_replicate, List.length_singleton, List.length_cons, List.length_nil]; omega)) 0 rfl rfl))) ?_
                          refine wa_take (i := 6) (d := 138) 4 rfl (by kernel_rfl) (by kernel_rfl) (by kernel_rfl) rfl rfl rfl (fun M21 N19 w56 hle26 S57 => .inl (run_build (l := [_, _, _, _, _]) rfl rfl st73 rfl rfl)) ?_
                          refine wa_only (i := 7) 3 rfl (by kernel_rfl) rfl rfl (fun w58 S59 => ?_)
                          refine (wo_buildSlice1 (C := cdCr) (l := [_, _, _, _, _]) rfl rfl rfl rfl sl25 rfl rfl rfl rfl S59 ?_)
                          intro gb5 w59 S60; clear S59
                          refine LeftW.grow [_] (Hp.le_refl _) S60 ?_; clear S60
                          change WA _ _ _ _ _ _ _ _ _ _ _ _ [_, _, _, _]
                          refine wa_only (i := 8) 2 rfl (by kernel_rfl) rfl rfl (fun w61 S62 => ?_)
                          refine (wo_append1 (C := cdCr) (i := 1) (q := 0) (⟨0, 0, 0, 0, ga plus k⟩ : Cr) rfl rfl rfl rfl rfl rfl rfl rfl sl25 S62 rfl rfl rfl (by show (_ + 1) * 40 ≤ _; first | omega | (simp only [List.length_set, List.length_append, List.length_replicate, List.length_singleton, List.length_cons, List.length_nil]; omega)) ?_)
                          intro vro1 w62 S63; clear S62
                          have S64 := S63.pick [1, 2, 3] [_, _, _] (by decide) ⟨rfl, rfl, rfl, trivial⟩; clear S63
                          refine LeftW.turn (by kernel_rfl) S64 ?_; clear S64
                          change WA _ _ _ _ _ _ _ _ _ _ _ _ [_, _, _]
                          refine wa_takeP (i := 9) (d := 141) 1 rfl (by kernel_rfl) (by kernel_rfl) (by kernel_rfl) rfl rfl rfl (fun w63 => run_fieldAddr rfl rfl Try.underlying27 rfl (ce25) (nf25)) ?_
                          refine wa_only (i := 10) 0 rfl (by kernel_rfl) rfl rfl (fun w65 S67 => ?_)
                          refine (wo_storeB (i := 1) (us := [_]) (l' := [_, _]) (H' := [_, _, _]) rfl rfl S67 rfl rfl rfl (S67.cells1 (i := 0) rfl) sz25 rfl (ones_cons (S67.one (i := 0) rfl) rfl) rfl rfl ?_)
                          intro w66 S68; clear S67
                          refine LeftW.turn (by kernel_rfl) S68 ?_; clear S68
                          change WA _ _ _ _ _ _ _ _ _ _ _ _ [_, _, _]
                          refine wa_end (by kernel_rfl) (fun w67 S69 => ?_)
                          refine nm_blk ?_
                          refine nm_sub [(0, _), (1, _), (6, _), (8, _), (16, _), (17, _)] ⟨rfl, rfl, rfl, rfl, rfl, rfl, trivial⟩ ?_
                          refine nm_thn ?_
                          refine ws_region rfl ?_
                          refine wl_op (k := 0) (k' := 1) rfl rfl rfl (wo_run rfl rfl (run_move rfl rfl) ?_)
                          refine wl_op (k := 1) (k' := 2) rfl rfl rfl (wo_run rfl rfl (run_add rfl rfl rfl (by first | omega | (simp only [List.length_set, List.length_append, List.length_replicate, List.length_singleton, List.length_cons, List.length_nil]; omega))) ?_)
                          refine wl_op (k := 2) (k' := 3) rfl rfl rfl (wo_run rfl rfl (run_assign rfl rfl) ?_)
                          refine wl_end rfl ?_
                          refine nm_lp ?_
                          intro ax_ hax_
                          refine ⟨_, ?hq17m, ⟨k + 1, _, _, rfl, hax_.sub ⟨rfl, rfl, rfl, rfl, rfl, rfl, trivial⟩, S69.pick [0, 1, 2] [_, _, _] (by decide) ⟨rfl, rfl, rfl, trivial⟩, ?hq17f0, ?hq17f1⟩⟩
                          case hq17f0 => omega
                          case hq17f1 => (rw [crsL_succ, ← hacc, crsL_0 _ (by omega)])
                          case hq17m => omega
                        · have hb129 := of_decide_eq_false hb129
                          refine ws_exit rfl rfl ?_
                          refine nm_sub [(0, _), (1, _), (6, _), (16, _)] ⟨rfl, rfl, rfl, rfl, trivial⟩ ?_
                          refine nm_thn ?_
                          refine ws_seqN BuildOf_n107 BuildOf_n108 rfl rfl rfl ?_
                          refine ws_region rfl ?_
                          refine wl_op (k := 0) (k' := 1) rfl rfl rfl (wo_run rfl rfl (run_assign rfl rfl) ?_)
                          refine wl_end rfl ?_
                          refine nm_thn ?_
                          refine ws_seqN BuildOf_n109 BuildOf_n110 rfl rfl rfl ?_
                          refine ws_seqN BuildOf_n111 BuildOf_n112 rfl rfl rfl ?_
                          refine ws_region rfl ?_
                          refine wl_op (k := 0) (k' := 1) rfl rfl rfl (wo_run rfl rfl (run_assign rfl rfl) ?_)
                          refine wl_end rfl ?_
                          refine nm_thn ?_
                          refine ws_blockN BuildOf_n113 8 rfl rfl rfl ?_
                          refine ws_loopE (fun mx_ ax_ wx_ => ∃ (i2 : Nat) (sb : List I2) (sa : List I2) (x : Int) (acc1 : List Cr) (vrp : Value), mx_ = lv.length - i2 ∧ Env 215 [(0, .slice lA lv.length lc), (1, .slice plusA plus.length plusc), (6, .pointer (some ⟨gb1, 0, none⟩)), (16, .pointer (some ⟨gb4, 0, none⟩)), (18, .int .i64 x), (19, .int .i64 (i2 : Int))] ax_ ∧ SH wx_ M14 X [Rs.row cdCr vrp acc1, Rs.box gb4 27 [vrp, .int .i64 loops], Rs.box gb1 27 [.slice none 0 0, .int .i64 0]] ∧ i2 ≤ lv.length ∧ drawL l (ba0 plus.length, 1) i2 = (⟨sb, sa⟩, x) ∧ acc1 = crsL plus ⟨sb, sa⟩ plus.length ∧ sb.length = plus.length ∧ sa.length = plus.length ∧ (-9223372036854775808 ≤ x ∧ x ≤ 9223372036854775807)) rfl ?_ ?_
                          · intro ax_ hax_
                            refine ⟨_, ⟨0, (ba0 plus.length).bl, (ba0 plus.length).ab, 1, _, _, rfl, hax_.sub ⟨rfl, rfl, rfl, rfl, rfl, rfl, trivial⟩, S50.pick [0, 1, 2] [_, _, _] (by decide) ⟨rfl, rfl, rfl, trivial⟩, ?hq18f0, ?hq18f1, ?hq18f2, ?hq18f3, ?hq18f4, ?hq18f5⟩⟩
                            case hq18f0 => omega
                            case hq18f1 => rfl
                            case hq18f2 => (rw [hacc, show k = plus.length by omega])
                            case hq18f3 => simp [ba0]
                            case hq18f4 => simp [ba0]
                            case hq18f5 => omega
                          · rintro m6 a8 w68 ⟨i2, sb, sa, x, acc1, vrp, rfl, he8, S70, hi2, hdr, hacc1, hsb, hsa, hx⟩
                            clear S50
                            refine ws_in he8 (c := BuildOf_n114) rfl ?_
                            clear he8 a8
                            refine ws_seqN BuildOf_n115 BuildOf_n116 rfl rfl rfl ?_
                            refine ws_seqN BuildOf_n117 BuildOf_n118 rfl rfl rfl ?_
                            refine ws_region rfl ?_
                            refine wl_op (k := 0) (k' := 1) rfl rfl rfl (wo_run rfl rfl (run_move rfl rfl) ?_)
                            refine wl_op (k := 1) (k' := 2) rfl rfl rfl (wo_run rfl rfl (run_move rfl rfl) ?_)
                            refine wl_op (k := 2) (k' := 3) rfl rfl rfl (wo_run rfl rfl (run_len rfl rfl rfl rfl rfl rfl Try.underlying22) ?_)
                            refine wl_op (k := 3) (k' := 4) rfl rfl rfl (wo_run rfl rfl (run_lss rfl rfl rfl) ?_)
                            refine wl_end rfl ?_
                            refine nm_sub [(0, _), (1, _), (6, _), (16, _), (18, _), (19, _), (145, _)] ⟨rfl, rfl, rfl, rfl, rfl, rfl, rfl, trivial⟩ ?_
                            refine nm_thn ?_
                            refine ws_condN BuildOf_n119 BuildOf_n120 rfl rfl rfl rfl (fun hb145 => ?_) (fun hb145 => ?_)
                            · have hb145 := of_decide_eq_true hb145
                              refine ws_skip rfl ?_
                              refine nm_sub [(0, _), (1, _), (6, _), (16, _), (18, _), (19, _)] ⟨rfl, rfl, rfl, rfl, rfl, rfl, trivial⟩ ?_
                              refine nm_thn ?_
                              refine ws_seqN BuildOf_n121 BuildOf_n122 rfl rfl rfl ?_
                              refine ws_blockN BuildOf_n123 9 rfl rfl rfl ?_
                              refine ws_seqN BuildOf_n124 BuildOf_n125 rfl rfl rfl ?_
                              refine ws_region rfl ?_
                              refine wl_op (k := 0) (k' := 1) rfl rfl rfl (wo_run rfl rfl (run_move rfl rfl) ?_)
                              refine wl_op (k := 1) (k' := 2) rfl rfl rfl (wo_run rfl rfl (run_assign rfl rfl) ?_)
                              refine wl_end rfl ?_
                              refine nm_sub [(0, _), (1, _), (6, _), (16, _), (18, _), (19, _), (20, _)] ⟨rfl, rfl, rfl, rfl, rfl, rfl, rfl, trivial⟩ ?_
                              refine nm_thn ?_
                              refine ws_seqN BuildOf_n126 BuildOf_n127 rfl rfl rfl ?_
                              refine ws_eq 18 (.int .i64 (wr (x + ((0 : Nat) : Int)))) rfl (int_eq (wr_zero hx)) ?_
                              refine ws_region rfl ?_
                              refine wl_op (k := 0) (k' := 1) rfl rfl rfl (wo_run rfl rfl (run_assign rfl rfl) ?_)
                              refine wl_end rfl ?_
                              refine nm_sub [(0, _), (1, _), (6, _), (16, _), (18, _), (19, _), (20, _), (21, _)] ⟨rfl, rfl, rfl, rfl, rfl, rfl, rfl, rfl, trivial⟩ ?_
                              refine nm_thn ?_
                              refine ws_blockN BuildOf_n128 10 rfl rfl rfl ?_
                              refine ws_loopE (fun mx_ ax_ wx_ => ∃ (j2 : Nat) (sb2 : List I2) (sa2 : List I2) (acc2 : List Cr) (vrq : Value), mx_ = (ga l i2).length - j2 ∧ Env 215 [(0, .slice lA lv.length lc), (1, .slice plusA plus.length plusc), (6, .pointer (some ⟨gb1, 0, none⟩)), (16, .pointer (some ⟨gb4, 0, none⟩)), (18, .int .i64 (wr (x + (j2 : Int)))), (19, .int .i64 (i2 : Int)), (20, .int .i64 x), (21, .int .i64 (j2 : Int))] ax_ ∧ SH wx_ M14 X [Rs.row cdCr vrq acc2, Rs.box gb4 27 [vrq, .int .i64 loops], Rs.box gb1 27 [.slice none 0 0, .int .i64 0]] ∧ j2 ≤ (ga l i2).length ∧ drawV (ga l i2) x ⟨sb, sa⟩ j2 = ⟨sb2, sa2⟩ ∧ acc2 = crsL plus ⟨sb2, sa2⟩ plus.length ∧ sb2.length = plus.length ∧ sa2.length = plus.length) rfl ?_ ?_
                              · intro ax_ hax_
                                refine ⟨_, ⟨0, sb, sa, _, _, rfl, hax_.sub ⟨rfl, rfl, rfl, rfl, rfl, rfl, rfl, rfl, trivial⟩, S70.pick [0, 1, 2] [_, _, _] (by decide) ⟨rfl, rfl, rfl, trivial⟩, ?hq19f0, ?hq19f1, ?hq19f2, ?hq19f3, ?hq19f4⟩⟩
                                case hq19f0 => omega
                                case hq19f1 => rfl
                                case hq19f2 => assumption
                                case hq19f3 => assumption
                                case hq19f4 => assumption
                              · rintro m7 a9 w69 ⟨j2, sb2, sa2, acc2, vrq, rfl, he9, S71, hj2, hdv, hacc2, hsb2, hsa2⟩
                                clear S70
                                refine ws_in he9 (c := BuildOf_n129) rfl ?_
                                clear he9 a9
                                have hal2 : acc2.length = plus.length := by rw [hacc2]; exact crsL_len _ _ _
                                have hokj2 : j2 < (ga l i2).length → (ga (ga l i2) j2).c.toNat < plus.length ∧ (ga (ga l i2) j2).c = ((ga (ga l i2) j2).c.toNat : Int) := fun h => (by have h9 := hokl i2 (by omega) j2 h; omega)
                                refine ws_seqN BuildOf_n130 BuildOf_n131 rfl rfl rfl ?_
                                refine ws_seqN BuildOf_n132 BuildOf_n133 rfl rfl rfl ?_
                                refine ws_region rfl ?_
                                refine wl_op (k := 0) (k' := 1) rfl rfl rfl (wo_run rfl rfl (run_move rfl rfl) ?_)
                                refine wl_op (k := 1) (k' := 2) rfl rfl rfl (wo_run rfl rfl (run_move rfl rfl) ?_)
                                refine wl_op (k := 2) (k' := 3) rfl rfl rfl (wo_run rfl rfl (run_move rfl rfl) ?_)
                                refine wl_op (k := 3) (k' := 4) rfl rfl rfl (wo_run rfl rfl (run_indexM (C := (cdV 24)) i2 rfl rfl rfl sl22 (by first | rfl | omega) hl (by first | omega | (simp only [List.length_set, List.length_append, List.length_replicate, List.length_singleton, List.length_cons, List.length_nil]; omega))) ?_)
                                obtain ⟨hn6, hr6⟩ := hdl.2 i2 (by first | omega | (simp only [List.length_set, List.length_append, List.length_replicate, List.length_singleton, List.length_cons, List.length_nil]; omega))
                                have rmhr6 : (ga l i2).length * 16 ≤ 140737488355328 := hr6.room
                                refine wl_op (k := 4) (k' := 5) rfl rfl rfl (wo_run rfl rfl (run_load1 rfl rfl Try.underlying24 rfl (hl.cell S71.um (i := i2) (by first | omega | (simp only [List.length_set, List.length_append, List.length_replicate, List.length_singleton, List.length_cons, List.length_nil]; omega)) 0 rfl (congrArg (fun n => some (Value.slice _ n _)) hn6))) ?_)
                                refine wl_op (k := 5) (k' := 6) rfl rfl rfl (wo_run rfl rfl (run_len rfl rfl rfl rfl rfl rfl Try.underlying24) ?_)
                                refine wl_op (k := 6) (k' := 7) rfl rfl rfl (wo_run rfl rfl (run_lss rfl rfl rfl) ?_)
                                refine wl_end rfl ?_
                                refine nm_sub [(0, _), (1, _), (6, _), (16, _), (18, _), (19, _), (20, _), (21, _), (155, _)] ⟨rfl, rfl, rfl, rfl, rfl, rfl, rfl, rfl, rfl, trivial⟩ ?_
                                refine nm_thn ?_
                                refine ws_condN BuildOf_n134 BuildOf_n135 rfl rfl rfl rfl (fun hb155 => ?_) (fun hb155 => ?_)
                                · have hb155 := of_decide_eq_true hb155
                                  refine ws_skip rfl ?_
                                  refine nm_sub [(0, _), (1, _), (6, _), (16, _), (18, _), (19, _), (20, _), (21, _)] ⟨rfl, rfl, rfl, rfl, rfl, rfl, rfl, rfl, trivial⟩ ?_
                                  refine nm_thn ?_
                                  refine ws_seqN BuildOf_n136 BuildOf_n137 rfl rfl rfl ?_
                                  refine ws_blockN BuildOf_n138 11 rfl rfl rfl ?_
                                  refine ws_seqN BuildOf_n139 BuildOf_n140 rfl rfl rfl ?_
                                  refine ws_region rfl ?_
                                  refine wl_op (k := 0) (k' := 1) rfl rfl rfl (wo_run rfl rfl (run_move rfl rfl) ?_)
                                  refine wl_op (k := 1) (k' := 2) rfl rfl rfl (wo_run rfl rfl (run_addW rfl rfl rfl) ?_)
                                  refine wl_op (k := 2) (k' := 3) rfl rfl rfl (wo_run rfl rfl (run_assign rfl rfl) ?_)
                                  refine wl_end rfl ?_
                                  refine nm_sub [(0, _), (1, _), (6, _), (16, _), (18, _), (19, _), (20, _), (21, _), (22, _)] ⟨rfl, rfl, rfl, rfl, rfl, rfl, rfl, rfl, rfl, trivial⟩ ?_
                                  refine nm_thn ?_
                                  refine ws_seqN BuildOf_n141 BuildOf_n142 rfl rfl rfl ?_
                                  refine ws_seqN BuildOf_n143 BuildOf_n144 rfl rfl rfl ?_
                                  refine ws_region rfl ?_
                                  refine wl_op (k := 0) (k' := 1) rfl rfl rfl (wo_run rfl rfl (run_move rfl rfl) ?_)
                                  refine wl_op (k := 1) (k' := 2) rfl rfl rfl (wo_run rfl rfl (run_add rfl rfl rfl (by first | omega | (simp only [List.length_set, List.length_append, List.length_replicate, List.length_singleton, List.length_cons, List.length_nil]; omega))) ?_)
                                  refine wl_op (k := 2) (k' := 3) rfl rfl rfl (wo_run rfl rfl (run_move rfl rfl) ?_)
                                  refine wl_op (k := 3) (k' := 4) rfl rfl rfl (wo_run rfl rfl (run_move rfl rfl) ?_)
                                  refine wl_op (k := 4) (k' := 5) rfl rfl rfl (wo_run rfl rfl (run_indexM (C := (cdV 24)) i2 rfl rfl rfl sl22 (by first | rfl | omega) hl (by first | omega | (simp only [List.length_set, List.length_append, List.length_replicate, List.length_singleton, List.length_cons, List.length_nil]; omega))) ?_)
                                  obtain ⟨hn7, hr7⟩ := hdl.2 i2 (by first | omega | (simp only [List.length_set, List.length_append, List.length_replicate, List.length_singleton, List.length_cons, List.length_nil]; omega))
                                  have rmhr7 : (ga l i2).length * 16 ≤ 140737488355328 := hr7.room
                                  refine wl_op (k := 5) (k' := 6) rfl rfl rfl (wo_run rfl rfl (run_load1 rfl rfl Try.underlying24 rfl (hl.cell S71.um (i := i2) (by first | omega | (simp only [List.length_set, List.length_append, List.length_replicate, List.length_singleton, List.length_cons, List.length_nil]; omega)) 0 rfl (congrArg (fun n => some (Value.slice _ n _)) hn7))) ?_)
                                  refine wl_op (k := 6) (k' := 7) rfl rfl rfl (wo_run rfl rfl (run_len rfl rfl rfl rfl rfl rfl Try.underlying24) ?_)
                                  refine wl_op (k := 7) (k' := 8) rfl rfl rfl (wo_run rfl rfl (run_eql rfl rfl rfl) ?_)
                                  refine wl_end rfl ?_
                                  refine nm_sub [(0, _), (1, _), (6, _), (16, _), (18, _), (19, _), (20, _), (21, _), (22, _), (167, _)] ⟨rfl, rfl, rfl, rfl, rfl, rfl, rfl, rfl, rfl, rfl, trivial⟩ ?_
                                  refine nm_thn ?_
                                  refine ws_condN BuildOf_n145 BuildOf_n146 rfl rfl rfl rfl (fun hb167 => ?_) (fun hb167 => ?_)
                                  · have hb167 := of_decide_eq_true hb167
                                    refine ws_region rfl ?_
                                    refine wl_op (k := 0) (k' := 1) rfl rfl rfl (wo_run rfl rfl (run_move rfl rfl) ?_)
                                    refine wl_op (k := 1) (k' := 2) rfl rfl rfl (wo_run rfl rfl (run_assign rfl rfl) ?_)
                                    refine wl_end rfl ?_
                                    refine nm_sub [(0, _), (1, _), (6, _), (16, _), (18, _), (19, _), (20, _), (21, _), (22, _)] ⟨rfl, rfl, rfl, rfl, rfl, rfl, rfl, rfl, rfl, trivial⟩ ?_
                                    refine nm_thn ?_
                                    refine ws_seqN BuildOf_n147 BuildOf_n148 rfl rfl rfl ?_
                                    refine ws_region rfl ?_
                                    refine wl_op (k := 0) (k' := 1) rfl rfl rfl (wo_run rfl rfl (run_move rfl rfl) ?_)
                                    refine wl_op (k := 1) (k' := 2) rfl rfl rfl (wo_run rfl rfl (run_move rfl rfl) ?_)
                                    refine wl_op (k := 2) (k' := 3) rfl rfl rfl (wo_run rfl rfl (run_indexM (C := (cdV 24)) i2 rfl rfl rfl sl22 (by first | rfl | omega) hl (by first | omega | (simp only [List.length_set, List.length_append, List.length_replicate, List.length_singleton, List.length_cons, List.length_nil]; omega))) ?_)
                                    obtain ⟨hn8, hr8⟩ := hdl.2 i2 (by first | omega | (simp only [List.length_set, List.length_append, List.length_replicate, List.length_singleton, List.length_cons, List.length_nil]; omega))
                                    have rmhr8 : (ga l i2).length * 16 ≤ 140737488355328 := hr8.room
                                    refine wl_op (k := 3) (k' := 4) rfl rfl rfl (wo_run rfl rfl (run_load1 rfl rfl Try.underlying24 rfl (hl.cell S71.um (i := i2) (by first | omega | (simp only [List.length_set, List.length_append, List.length_replicate, List.length_singleton, List.length_cons, List.length_nil]; omega)) 0 rfl (congrArg (fun n => some (Value.slice _ n _)) hn8))) ?_)
                                    refine wl_op (k := 4) (k' := 5) rfl rfl rfl (wo_run rfl rfl (run_move rfl rfl) ?_)
                                    refine wl_op (k := 5) (k' := 6) rfl rfl rfl (wo_run rfl rfl (run_indexM (C := cdVi) j2 rfl rfl rfl sl24 (by first | rfl | omega) hr8 (by first | omega | (simp only [List.length_set, List.length_append, List.length_replicate, List.length_singleton, List.length_cons, List.length_nil]; omega))) ?_)
                                    refine wl_op (k := 6) (k' := 7) rfl rfl rfl (wo_run rfl rfl (run_fieldAddr rfl rfl Try.underlying70 rfl (ce3) (nf3)) ?_)
                                    refine wl_op (k := 7) (k' := 8) rfl rfl rfl (wo_run rfl rfl (run_load1 rfl rfl Try.underlying3 rfl (hr8.cell S71.um (i := j2) (by first | omega | (simp only [List.length_set, List.length_append, List.length_replicate, List.length_singleton, List.length_cons, List.length_nil]; omega)) 0 rfl rfl)) ?_)
                                    refine wl_op (k := 8) (k' := 9) rfl rfl rfl (wo_run rfl rfl (run_assign rfl rfl) ?_)
                                    refine wl_end rfl ?_
                                    refine nm_sub [(0, _), (1, _), (6, _), (16, _), (18, _), (19, _), (20, _), (21, _), (22, _), (23, _)] ⟨rfl, rfl, rfl, rfl, rfl, rfl, rfl, rfl, rfl, rfl, trivial⟩ ?_
                                    refine nm_thn ?_
                                    refine ws_seqN BuildOf_n149 BuildOf_n150 rfl rfl rfl ?_
                                    refine ws_region rfl ?_
                                    refine wl_op (k := 0) (k' := 1) rfl rfl rfl (wo_run rfl rfl (run_fieldAddr rfl rfl Try.underlying27 rfl (ce25) (nf25)) ?_)
                                    refine wl_op (k := 1) (k' := 2) rfl rfl rfl (wo_run rfl rfl (run_load1 rfl rfl Try.underlying25 rfl (S71.boxc (i := 1) rfl rfl)) ?_)
                                    refine wl_op (k := 2) (k' := 3) rfl rfl rfl (wo_run rfl rfl (run_move rfl rfl) ?_)
                                    refine wl_op (k := 3) (k' := 4) rfl rfl rfl (wo_run rfl rfl (run_indexR (C := cdCr) (i := 0) (((ga (ga l i2) j2).c).toNat) rfl rfl rfl sl25 S71 rfl (by first | rfl | omega) (by first | omega | (simp only [List.length_set, List.length_append, List.length_replicate, List.length_singleton, List.length_cons, List.length_nil]; omega))) ?_)
                                    refine wl_op (k := 4) (k' := 5) rfl rfl rfl (wo_run rfl rfl (run_loadN (us := [_, _, _, _, _]) rfl rfl Try.underlying73 rfl sz73 (S71.rowcs (i := 0) (e := ((ga (ga l i2) j2).c).toNat) (j := 0) rfl (by first | omega | (simp only [List.length_set, List.length_append, List.length_replicate, List.length_singleton, List.length_cons, List.length_nil]; omega)) ⟨rfl, rfl, rfl, rfl, rfl, trivial⟩)) ?_)
                                    refine wl_op (k := 5) (k' := 6) rfl rfl rfl (wo_alloc (l := [_, _, _, _, _]) rfl rfl rfl zr73 rfl S71 ?_)
                                    intro gb6 w70 S72; clear S71
                                    refine wl_op (k := 6) (k' := 7) rfl rfl rfl (wo_storeB (i := 0) (us := [_, _, _, _, _]) (l' := [_, _, _, _, _]) (H' := [_, _, _, _]) rfl rfl S72 rfl rfl rfl rfl sz73 rfl rfl rfl rfl ?_)
                                    intro w71 S73; clear S72
                                    refine wl_end rfl ?_
                                    refine nm_sub [(0, _), (1, _), (6, _), (16, _), (18, _), (19, _), (20, _), (21, _), (22, _), (23, _), (24, _)] ⟨rfl, rfl, rfl, rfl, rfl, rfl, rfl, rfl, rfl, rfl, rfl, trivial⟩ ?_
                                    refine nm_thn ?_
                                    refine ws_seqN BuildOf_n151 BuildOf_n152 rfl rfl rfl ?_
                                    refine ws_seqN BuildOf_n153 BuildOf_n154 rfl rfl rfl ?_
                                    refine ws_region rfl ?_
                                    refine wl_op (k := 0) (k' := 1) rfl rfl rfl (wo_run rfl rfl (run_move rfl rfl) ?_)
                                    refine wl_op (k := 1) (k' := 2) rfl rfl rfl (wo_run rfl rfl (run_move rfl rfl) ?_)
                                    refine wl_op (k := 2) (k' := 3) rfl rfl rfl (wo_run rfl rfl (run_indexM (C := (cdV 24)) i2 rfl rfl rfl sl22 (by first | rfl | omega) hl (by first | omega | (simp only [List.length_set, List.length_append, List.length_replicate, List.length_singleton, List.length_cons, List.length_nil]; omega))) ?_)
                                    obtain ⟨hn9, hr9⟩ := hdl.2 i2 (by first | omega | (simp only [List.length_set, List.length_append, List.length_replicate, List.length_singleton, List.length_cons, List.length_nil]; omega))
                                    have rmhr9 : (ga l i2).length * 16 ≤ 140737488355328 := hr9.room
                                    refine wl_op (k := 3) (k' := 4) rfl rfl rfl (wo_run rfl rfl (run_load1 rfl rfl Try.underlying24 rfl (hl.cell S73.um (i := i2) (by first | omega | (simp only [List.length_set, List.length_append, List.length_replicate, List.length_singleton, List.length_cons, List.length_nil]; omega)) 0 rfl (congrArg (fun n => some (Value.slice _ n _)) hn9))) ?_)
                                    refine wl_op (k := 4) (k' := 5) rfl rfl rfl (wo_run rfl rfl (run_move rfl rfl) ?_)
                                    refine wl_op (k := 5) (k' := 6) rfl rfl rfl (wo_run rfl rfl (run_indexM (C := cdVi) j2 rfl rfl rfl sl24 (by first | rfl | omega) hr9 (by first | omega | (simp only [List.length_set, List.length_append, List.length_replicate, List.length_singleton, List.length_cons, List.length_nil]; omega))) ?_)
                                    refine wl_op (k := 6) (k' := 7) rfl rfl rfl (wo_run rfl rfl (run_fieldAddr rfl rfl Try.underlying70 rfl (ce4) (nf4)) ?_)
                                    refine wl_op (k := 7) (k' := 8) rfl rfl rfl (wo_run rfl rfl (run_load1 rfl rfl Try.underlying4 rfl (hr9.cell S73.um (i := j2) (by first | omega | (simp only [List.length_set, List.length_append, List.length_replicate, List.length_singleton, List.length_cons, List.length_nil]; omega)) 1 rfl rfl)) ?_)
                                    refine wl_op (k := 8) (k' := 9) rfl rfl rfl (wo_run rfl rfl (run_not rfl rfl) ?_)
                                    refine wl_end rfl ?_
                                    refine nm_sub [(0, _), (1, _), (6, _), (16, _), (18, _), (19, _), (20, _), (21, _), (22, _), (23, _), (24, _), (190, _)] ⟨rfl, rfl, rfl, rfl, rfl, rfl, rfl, rfl, rfl, rfl, rfl, rfl, trivial⟩ ?_
                                    refine nm_thn ?_
                                    refine ws_condN BuildOf_n155 BuildOf_n156 rfl rfl rfl rfl (fun hb190 => ?_) (fun hb190 => ?_)
                                    · simp only [Bool.and_eq_true, Bool.or_eq_true, Bool.and_eq_false_iff, Bool.or_eq_false_iff, decide_eq_true_eq, decide_eq_false_iff_not, Bool.not_eq_true', Bool.not_eq_false'] at hb190
                                      refine ws_region rfl ?_
                                      refine wl_op (k := 0) (k' := 1) rfl rfl rfl (wo_run rfl rfl (run_move rfl rfl) ?_)
                                      refine wl_op (k := 1) (k' := 2) rfl rfl rfl (wo_run rfl rfl (run_move rfl rfl) ?_)
                                      refine wl_op (k := 2) (k' := 3) rfl rfl rfl (wo_run rfl rfl (run_fieldAddr rfl rfl Try.underlying73 rfl (ce3) (nf3)) ?_)
                                      refine wl_op (k := 3) (k' := 4) rfl rfl rfl (wo_storeB (i := 0) (us := [_]) (l' := [_, _, _, _, _]) (H' := [_, _, _, _]) rfl rfl S73 rfl rfl rfl rfl sz3 rfl rfl rfl rfl ?_)
                                      intro w72 S74; clear S73
                                      refine wl_op (k := 4) (k' := 5) rfl rfl rfl (wo_run rfl rfl (run_fieldAddr rfl rfl Try.underlying73 rfl (ce3) (nf3)) ?_)
                                      refine wl_op (k := 5) (k' := 6) rfl rfl rfl (wo_storeB (i := 0) (us := [_]) (l' := [_, _, _, _, _]) (H' := [_, _, _, _]) rfl rfl S74 rfl rfl rfl rfl sz3 rfl rfl rfl rfl ?_)
                                      intro w73 S75; clear S74
                                      refine wl_end rfl ?_
                                      refine nm_sub [(0, _), (1, _), (6, _), (16, _), (18, _), (19, _), (20, _), (21, _), (23, _), (24, _)] ⟨rfl, rfl, rfl, rfl, rfl, rfl, rfl, rfl, rfl, rfl, trivial⟩ ?_
                                      refine nm_thn ?_
                                      refine ws_seqN BuildOf_n157 BuildOf_n158 rfl rfl rfl ?_
                                      refine ws_region rfl ?_
                                      refine wl_op (k := 0) (k' := 1) rfl rfl rfl (wo_run rfl rfl (run_fieldAddr rfl rfl Try.underlying27 rfl (ce25) (nf25)) ?_)
                                      refine wl_op (k := 1) (k' := 2) rfl rfl rfl (wo_run rfl rfl (run_load1 rfl rfl Try.underlying25 rfl (S75.boxc (i := 2) rfl rfl)) ?_)
                                      refine wl_op (k := 2) (k' := 3) rfl rfl rfl (wo_run rfl rfl (run_move rfl rfl) ?_)
                                      refine wl_op (k := 3) (k' := 4) rfl rfl rfl (wo_run rfl rfl (run_loadN (us := [_, _, _, _, _]) rfl rfl Try.underlying73 rfl sz73 (S75.boxcs (i := 0) rfl ⟨rfl, rfl, rfl, rfl, rfl, trivial⟩)) ?_)
                                      refine wl_op (k := 4) (k' := 5) rfl rfl rfl (wo_run rfl rfl (run_indexR (C := cdCr) (i := 1) (((ga (ga l i2) j2).c).toNat) rfl rfl rfl sl25 S75 rfl (by first | rfl | omega) (by first | omega | (simp only [List.length_set, List.length_append, List.length_replicate, List.length_singleton, List.length_cons, List.length_nil]; omega))) ?_)
                                      refine wl_op (k := 5) (k' := 6) rfl rfl rfl (wo_storeR (C := cdCr) (i := 1) (e := ((ga (ga l i2) j2).c).toNat) (j := 0) (us := [_, _, _, _, _]) (H' := [_, _, _, _]) (⟨wr (x + (j2 : Int)), (ga acc2 (((ga (ga l i2) j2).c).toNat)).b, x, (ga acc2 (((ga (ga l i2) j2).c).toNat)).d, (ga acc2 (((ga (ga l i2) j2).c).toNat)).plus⟩ : Cr) rfl rfl S75 rfl (by first | omega | (simp only [List.length_set, List.length_append, List.length_replicate, List.length_singleton, List.length_cons, List.length_nil]; omega)) rfl rfl rfl sz73 rfl rfl rfl rfl ?_)
                                      intro w74 S76; clear S75
                                      refine wl_end rfl ?_
                                      refine nm_sub [(0, _), (1, _), (6, _), (16, _), (18, _), (19, _), (20, _), (21, _)] ⟨rfl, rfl, rfl, rfl, rfl, rfl, rfl, rfl, trivial⟩ ?_
                                      refine nm_thn ?_
                                      refine ws_region rfl ?_
                                      refine wl_op (k := 0) (k' := 1) rfl rfl rfl (wo_run rfl rfl (run_move rfl rfl) ?_)
                                      refine wl_op (k := 1) (k' := 2) rfl rfl rfl (wo_run rfl rfl (run_addW rfl rfl rfl) ?_)
                                      refine wl_op (k := 2) (k' := 3) rfl rfl rfl (wo_run rfl rfl (run_assign rfl rfl) ?_)
                                      refine wl_end rfl ?_
                                      refine nm_blk ?_
                                      refine nm_sub [(0, _), (1, _), (6, _), (16, _), (18, _), (19, _), (20, _), (21, _)] ⟨rfl, rfl, rfl, rfl, rfl, rfl, rfl, rfl, trivial⟩ ?_
                                      refine nm_thn ?_
                                      refine ws_eq 18 (.int .i64 (wr (x + ((j2 + 1 : Nat) : Int)))) rfl (int_eq (wr_next _ _)) ?_
                                      refine ws_region rfl ?_
                                      refine wl_op (k := 0) (k' := 1) rfl rfl rfl (wo_run rfl rfl (run_move rfl rfl) ?_)
                                      refine wl_op (k := 1) (k' := 2) rfl rfl rfl (wo_run rfl rfl (run_add rfl rfl rfl (by first | omega | (simp only [List.length_set, List.length_append, List.length_replicate, List.length_singleton, List.length_cons, List.length_nil]; omega))) ?_)
                                      refine wl_op (k := 2) (k' := 3) rfl rfl rfl (wo_run rfl rfl (run_assign rfl rfl) ?_)
                                      refine wl_end rfl ?_
                                      refine nm_lp ?_
                                      intro ax_ hax_
                                      refine ⟨_, ?hq20m, ⟨j2 + 1, (drawV (ga l i2) x ⟨sb, sa⟩ (j2 + 1)).bl, (drawV (ga l i2) x ⟨sb, sa⟩ (j2 + 1)).ab, _, _, rfl, hax_.sub ⟨rfl, rfl, rfl, rfl, rfl, rfl, rfl, rfl, trivial⟩, S76.pick [1, 2, 3] [_, _, _] (by decide) ⟨rfl, rfl, rfl, trivial⟩, ?hq20f0, ?hq20f1, ?hq20f2, ?hq20f3, ?hq20f4⟩⟩
                                      case hq20f0 => omega
                                      case hq20f1 => rfl
                                      case hq20f2 => (subst hacc2; first | exact draw_B hdv (by simpa using hb190) (by omega) hsb2 (by first | exact arcV_last (by omega) hx | exact arcV_next (by omega)) | exact draw_T hdv (by simpa using hb190) hb198 (by omega) hsa2 (by first | exact arcV_last (by omega) hx | exact arcV_next (by omega)) | exact draw_F hdv (by simpa using hb190) hb198 (by omega) hsa2 (by first | exact arcV_last (by omega) hx | exact arcV_next (by omega)))
                                      case hq20f3 => (rw [(drawV_len _ _ _ _).1]; exact hsb)
                                      case hq20f4 => (rw [(drawV_len _ _ _ _).2]; exact hsa)
                                      case hq20m => omega
                                    · simp only [Bool.and_eq_true, Bool.or_eq_true, Bool.and_eq_false_iff, Bool.or_eq_false_iff, decide_eq_true_eq, decide_eq_false_iff_not, Bool.not_eq_true', Bool.not_eq_false'] at hb190
                                      refine ws_seqN BuildOf_n159 BuildOf_n160 rfl rfl rfl ?_
                                      refine ws_region rfl ?_
                                      refine wl_op (k := 0) (k' := 1) rfl rfl rfl (wo_run rfl rfl (run_move rfl rfl) ?_)
                                      refine wl_op (k := 1) (k' := 2) rfl rfl rfl (wo_run rfl rfl (run_move rfl rfl) ?_)
                                      refine wl_op (k := 2) (k' := 3) rfl rfl rfl (wo_run rfl rfl (run_indexM (C := cdBool) (((ga (ga l i2) j2).c).toNat) rfl rfl rfl sl23 (by first | rfl | omega) hplus (by first | omega | (simp only [List.length_set, List.length_append, List.length_replicate, List.length_singleton, List.length_cons, List.length_nil]; omega))) ?_)
                                      refine wl_op (k := 3) (k' := 4) rfl rfl rfl (wo_run rfl rfl (run_load1 rfl rfl Try.underlying4 rfl (hplus.cell S73.um (i := ((ga (ga l i2) j2).c).toNat) (by first | omega | (simp only [List.length_set, List.length_append, List.length_replicate, List.length_singleton, List.length_cons, List.length_nil]; omega)) 0 rfl rfl)) ?_)
                                      refine wl_end rfl ?_
                                      refine nm_sub [(0, _), (1, _), (6, _), (16, _), (18, _), (19, _), (20, _), (21, _), (22, _), (23, _), (24, _), (198, _)] ⟨rfl, rfl, rfl, rfl, rfl, rfl, rfl, rfl, rfl, rfl, rfl, rfl, trivial⟩ ?_
                                      refine nm_thn ?_
                                      refine ws_condN BuildOf_n161 BuildOf_n162 rfl rfl rfl rfl (fun hb198 => ?_) (fun hb198 => ?_)
                                      · refine ws_region rfl ?_
                                        refine wl_op (k := 0) (k' := 1) rfl rfl rfl (wo_run rfl rfl (run_move rfl rfl) ?_)
                                        refine wl_op (k := 1) (k' := 2) rfl rfl rfl (wo_run rfl rfl (run_move rfl rfl) ?_)
                                        refine wl_op (k := 2) (k' := 3) rfl rfl rfl (wo_run rfl rfl (run_fieldAddr rfl rfl Try.underlying73 rfl (ce3) (nf3)) ?_)
                                        refine wl_op (k := 3) (k' := 4) rfl rfl rfl (wo_storeB (i := 0) (us := [_]) (l' := [_, _, _, _, _]) (H' := [_, _, _, _]) rfl rfl S73 rfl rfl rfl rfl sz3 rfl rfl rfl rfl ?_)
                                        intro w75 S77; clear S73
                                        refine wl_op (k := 4) (k' := 5) rfl rfl rfl (wo_run rfl rfl (run_fieldAddr rfl rfl Try.underlying73 rfl (ce3) (nf3)) ?_)
                                        refine wl_op (k := 5) (k' := 6) rfl rfl rfl (wo_storeB (i := 0) (us := [_]) (l' := [_, _, _, _, _]) (H' := [_, _, _, _]) rfl rfl S77 rfl rfl rfl rfl sz3 rfl rfl rfl rfl ?_)
                                        intro w76 S78; clear S77
                                        refine wl_end rfl ?_
                                        refine nm_sub [(0, _), (1, _), (6, _), (16, _), (18, _), (19, _), (20, _), (21, _), (23, _), (24, _)] ⟨rfl, rfl, rfl, rfl, rfl, rfl, rfl, rfl, rfl, rfl, trivial⟩ ?_
                                        refine nm_thn ?_
                                        refine ws_seqN BuildOf_n157 BuildOf_n158 rfl rfl rfl ?_
                                        refine ws_region rfl ?_
                                        refine wl_op (k := 0) (k' := 1) rfl rfl rfl (wo_run rfl rfl (run_fieldAddr rfl rfl Try.underlying27 rfl (ce25) (nf25)) ?_)
                                        refine wl_op (k := 1) (k' := 2) rfl rfl rfl (wo_run rfl rfl (run_load1 rfl rfl Try.underlying25 rfl (S78.boxc (i := 2) rfl rfl)) ?_)
                                        refine wl_op (k := 2) (k' := 3) rfl rfl rfl (wo_run rfl rfl (run_move rfl rfl) ?_)
                                        refine wl_op (k := 3) (k' := 4) rfl rfl rfl (wo_run rfl rfl (run_loadN (us := [_, _, _, _, _]) rfl rfl Try.underlying73 rfl sz73 (S78.boxcs (i := 0) rfl ⟨rfl, rfl, rfl, rfl, rfl, trivial⟩)) ?_)
                                        refine wl_op (k := 4) (k' := 5) rfl rfl rfl (wo_run rfl rfl (run_indexR (C := cdCr) (i := 1) (((ga (ga l i2) j2).c).toNat) rfl rfl rfl sl25 S78 rfl (by first | rfl | omega) (by first | omega | (simp only [List.length_set, List.length_append, List.length_replicate, List.length_singleton, List.length_cons, List.length_nil]; omega))) ?_)
                                        refine wl_op (k := 5) (k' := 6) rfl rfl rfl (wo_storeR (C := cdCr) (i := 1) (e := ((ga (ga l i2) j2).c).toNat) (j := 0) (us := [_, _, _, _, _]) (H' := [_, _, _, _]) (⟨(ga acc2 (((ga (ga l i2) j2).c).toNat)).a, x, (ga acc2 (((ga (ga l i2) j2).c).toNat)).c, wr (x + (j2 : Int)), (ga acc2 (((ga (ga l i2) j2).c).toNat)).plus⟩ : Cr) rfl rfl S78 rfl (by first | omega | (simp only [List.length_set, List.length_append, List.length_replicate, List.length_singleton, List.length_cons, List.length_nil]; omega)) rfl rfl rfl sz73 rfl rfl rfl rfl ?_)
                                        intro w77 S79; clear S78
                                        refine wl_end rfl ?_
                                        refine nm_sub [(0, _), (1, _), (6, _), (16, _), (18, _), (19, _), (20, _), (21, _)] ⟨rfl, rfl, rfl, rfl, rfl, rfl, rfl, rfl, trivial⟩ ?_
                                        refine nm_thn ?_
                                        refine ws_region rfl ?_
                                        refine wl_op (k := 0) (k' := 1) rfl rfl rfl (wo_run rfl rfl (run_move rfl rfl) ?_)
                                        refine wl_op (k := 1) (k' := 2) rfl rfl rfl (wo_run rfl rfl (run_addW rfl rfl rfl) ?_)
                                        refine wl_op (k := 2) (k' := 3) rfl rfl rfl (wo_run rfl rfl (run_assign rfl rfl) ?_)
                                        refine wl_end rfl ?_
                                        refine nm_blk ?_
                                        refine nm_sub [(0, _), (1, _), (6, _), (16, _), (18, _), (19, _), (20, _), (21, _)] ⟨rfl, rfl, rfl, rfl, rfl, rfl, rfl, rfl, trivial⟩ ?_
                                        refine nm_thn ?_
                                        refine ws_eq 18 (.int .i64 (wr (x + ((j2 + 1 : Nat) : Int)))) rfl (int_eq (wr_next _ _)) ?_
                                        refine ws_region rfl ?_
                                        refine wl_op (k := 0) (k' := 1) rfl rfl rfl (wo_run rfl rfl (run_move rfl rfl) ?_)
                                        refine wl_op (k := 1) (k' := 2) rfl rfl rfl (wo_run rfl rfl (run_add rfl rfl rfl (by first | omega | (simp only [List.length_set, List.length_append, List.length_replicate, List.length_singleton, List.length_cons, List.length_nil]; omega))) ?_)
                                        refine wl_op (k := 2) (k' := 3) rfl rfl rfl (wo_run rfl rfl (run_assign rfl rfl) ?_)
                                        refine wl_end rfl ?_
                                        refine nm_lp ?_
                                        intro ax_ hax_
                                        refine ⟨_, ?hq21m, ⟨j2 + 1, (drawV (ga l i2) x ⟨sb, sa⟩ (j2 + 1)).bl, (drawV (ga l i2) x ⟨sb, sa⟩ (j2 + 1)).ab, _, _, rfl, hax_.sub ⟨rfl, rfl, rfl, rfl, rfl, rfl, rfl, rfl, trivial⟩, S79.pick [1, 2, 3] [_, _, _] (by decide) ⟨rfl, rfl, rfl, trivial⟩, ?hq21f0, ?hq21f1, ?hq21f2, ?hq21f3, ?hq21f4⟩⟩
                                        case hq21f0 => omega
                                        case hq21f1 => rfl
                                        case hq21f2 => (subst hacc2; first | exact draw_B hdv (by simpa using hb190) (by omega) hsb2 (by first | exact arcV_last (by omega) hx | exact arcV_next (by omega)) | exact draw_T hdv (by simpa using hb190) hb198 (by omega) hsa2 (by first | exact arcV_last (by omega) hx | exact arcV_next (by omega)) | exact draw_F hdv (by simpa using hb190) hb198 (by omega) hsa2 (by first | exact arcV_last (by omega) hx | exact arcV_next (by omega)))
                                        case hq21f3 => (rw [(drawV_len _ _ _ _).1]; exact hsb)
                                        case hq21f4 => (rw [(drawV_len _ _ _ _).2]; exact hsa)
                                        case hq21m => omega
                                      · refine ws_region rfl ?_
                                        refine wl_op (k := 0) (k' := 1) rfl rfl rfl (wo_run rfl rfl (run_move rfl rfl) ?_)
                                        refine wl_op (k := 1) (k' := 2) rfl rfl rfl (wo_run rfl rfl (run_move rfl rfl) ?_)
                                        refine wl_op (k := 2) (k' := 3) rfl rfl rfl (wo_run rfl rfl (run_fieldAddr rfl rfl Try.underlying73 rfl (ce3) (nf3)) ?_)
                                        refine wl_op (k := 3) (k' := 4) rfl rfl rfl (wo_storeB (i := 0) (us := [_]) (l' := [_, _, _, _, _]) (H' := [_, _, _, _]) rfl rfl S73 rfl rfl rfl rfl sz3 rfl rfl rfl rfl ?_)
                                        intro w78 S80; clear S73
                                        refine wl_op (k := 4) (k' := 5) rfl rfl rfl (wo_run rfl rfl (run_fieldAddr rfl rfl Try.underlying73 rfl (ce3) (nf3)) ?_)
                                        refine wl_op (k := 5) (k' := 6) rfl rfl rfl (wo_storeB (i := 0) (us := [_]) (l' := [_, _, _, _, _]) (H' := [_, _, _, _]) rfl rfl S80 rfl rfl rfl rfl sz3 rfl rfl rfl rfl ?_)
                                        intro w79 S81; clear S80
                                        refine wl_end rfl ?_
                                        refine nm_sub [(0, _), (1, _), (6, _), (16, _), (18, _), (19, _), (20, _), (21, _), (23, _), (24, _)] ⟨rfl, rfl, rfl, rfl, rfl, rfl, rfl, rfl, rfl, rfl, trivial⟩ ?_
                                        refine nm_thn ?_
                                        refine ws_seqN BuildOf_n157 BuildOf_n158 rfl rfl rfl ?_
                                        refine ws_region rfl ?_
                                        refine wl_op (k := 0) (k' := 1) rfl rfl rfl (wo_run rfl rfl (run_fieldAddr rfl rfl Try.underlying27 rfl (ce25) (nf25)) ?_)
                                        refine wl_op (k := 1) (k' := 2) rfl rfl rfl (wo_run rfl rfl (run_load1 rfl rfl Try.underlying25 rfl (S81.boxc (i := 2) rfl rfl)) ?_)
                                        refine wl_op (k := 2) (k' := 3) rfl rfl rfl (wo_run rfl rfl (run_move rfl rfl) ?_)
                                        refine wl_op (k := 3) (k' := 4) rfl rfl rfl (wo_run rfl rfl (run_loadN (us := [_, _, _, _, _]) rfl rfl Try.underlying73 rfl sz73 (S81.boxcs (i := 0) rfl ⟨rfl, rfl, rfl, rfl, rfl, trivial⟩)) ?_)
                                        refine wl_op (k := 4) (k' := 5) rfl rfl rfl (wo_run rfl rfl (run_indexR (C := cdCr) (i := 1) (((ga (ga l i2) j2).c).toNat) rfl rfl rfl sl25 S81 rfl (by first | rfl | omega) (by first | omega | (simp only [List.length_set, List.length_append, List.length_replicate, List.length_singleton, List.length_cons, List.length_nil]; omega))) ?_)
                                        refine wl_op (k := 5) (k' := 6) rfl rfl rfl (wo_storeR (C := cdCr) (i := 1) (e := ((ga (ga l i2) j2).c).toNat) (j := 0) (us := [_, _, _, _, _]) (H' := [_, _, _, _]) (⟨(ga acc2 (((ga (ga l i2) j2).c).toNat)).a, wr (x + (j2 : Int)), (ga acc2 (((ga (ga l i2) j2).c).toNat)).c, x, (ga acc2 (((ga (ga l i2) j2).c).toNat)).plus⟩ : Cr) rfl rfl S81 rfl (by first | omega | (simp only [List.length_set, List.length_append, List.length_replicate, List.length_singleton, List.length_cons, List.length_nil]; omega)) rfl rfl rfl sz73 rfl rfl rfl rfl ?_)
                                        intro w80 S82; clear S81
                                        refine wl_end rfl ?_
                                        refine nm_sub [(0, _), (1, _), (6, _), (16, _), (18, _), (19, _), (20, _), (21, _)] ⟨rfl, rfl, rfl, rfl, rfl, rfl, rfl, rfl, trivial⟩ ?_
                                        refine nm_thn ?_
                                        refine ws_region rfl ?_
                                        refine wl_op (k := 0) (k' := 1) rfl rfl rfl (wo_run rfl rfl (run_move rfl rfl) ?_)
                                        refine wl_op (k := 1) (k' := 2) rfl rfl rfl (wo_run rfl rfl (run_addW rfl rfl rfl) ?_)
                                        refine wl_op (k := 2) (k' := 3) rfl rfl rfl (wo_run rfl rfl (run_assign rfl rfl) ?_)
                                        refine wl_end rfl ?_
                                        refine nm_blk ?_
                                        refine nm_sub [(0, _), (1, _), (6, _), (16, _), (18, _), (19, _), (20, _), (21, _)] ⟨rfl, rfl, rfl, rfl, rfl, rfl, rfl, rfl, trivial⟩ ?_
                                        refine nm_thn ?_
                                        refine ws_eq 18 (.int .i64 (wr (x + ((j2 + 1 : Nat) : Int)))) rfl (int_eq (wr_next _ _)) ?_
                                        refine ws_region rfl ?_
                                        refine wl_op (k := 0) (k' := 1) rfl rfl rfl (wo_run rfl rfl (run_move rfl rfl) ?_)
                                        refine wl_op (k := 1) (k' := 2) rfl rfl rfl (wo_run rfl rfl (run_add rfl rfl rfl (by first | omega | (simp only [List.length_set, List.length_append, List.length_replicate, List.length_singleton, List.length_cons, List.length_nil]; omega))) ?_)
                                        refine wl_op (k := 2) (k' := 3) rfl rfl rfl (wo_run rfl rfl (run_assign rfl rfl) ?_)
                                        refine wl_end rfl ?_
                                        refine nm_lp ?_
                                        intro ax_ hax_
                                        refine ⟨_, ?hq22m, ⟨j2 + 1, (drawV (ga l i2) x ⟨sb, sa⟩ (j2 + 1)).bl, (drawV (ga l i2) x ⟨sb, sa⟩ (j2 + 1)).ab, _, _, rfl, hax_.sub ⟨rfl, rfl, rfl, rfl, rfl, rfl, rfl, rfl, trivial⟩, S82.pick [1, 2, 3] [_, _, _] (by decide) ⟨rfl, rfl, rfl, trivial⟩, ?hq22f0, ?hq22f1, ?hq22f2, ?hq22f3, ?hq22f4⟩⟩
                                        case hq22f0 => omega
                                        case hq22f1 => rfl
                                        case hq22f2 => (subst hacc2; first | exact draw_B hdv (by simpa using hb190) (by omega) hsb2 (by first | exact arcV_last (by omega) hx | exact arcV_next (by omega)) | exact draw_T hdv (by simpa using hb190) hb198 (by omega) hsa2 (by first | exact arcV_last (by omega) hx | exact arcV_next (by omega)) | exact draw_F hdv (by simpa using hb190) hb198 (by omega) hsa2 (by first | exact arcV_last (by omega) hx | exact arcV_next (by omega)))
                                        case hq22f3 => (rw [(drawV_len _ _ _ _).1]; exact hsb)
                                        case hq22f4 => (rw [(drawV_len _ _ _ _).2]; exact hsa)
                                        case hq22m => omega
                                  · have hb167 := of_decide_eq_false hb167
                                    refine ws_skip rfl ?_
                                    refine nm_sub [(0, _), (1, _), (6, _), (16, _), (18, _), (19, _), (20, _), (21, _), (22, _)] ⟨rfl, rfl, rfl, rfl, rfl, rfl, rfl, rfl, rfl, trivial⟩ ?_
                                    refine nm_thn ?_
                                    refine ws_seqN BuildOf_n147 BuildOf_n148 rfl rfl rfl ?_
                                    refine ws_region rfl ?_
                                    refine wl_op (k := 0) (k' := 1) rfl rfl rfl (wo_run rfl rfl (run_move rfl rfl) ?_)
                                    refine wl_op (k := 1) (k' := 2) rfl rfl rfl (wo_run rfl rfl (run_move rfl rfl) ?_)
                                    refine wl_op (k := 2) (k' := 3) rfl rfl rfl (wo_run rfl rfl (run_indexM (C := (cdV 24)) i2 rfl rfl rfl sl22 (by first | rfl | omega) hl (by first | omega | (simp only [List.length_set, List.length_append, List.length_replicate, List.length_singleton, List.length_cons, List.length_nil]; omega))) ?_)
                                    obtain ⟨hn10, hr10⟩ := hdl.2 i2 (by first | omega | (simp only [List.length_set, List.length_append, List.length_replicate, List.length_singleton, List.length_cons, List.length_nil]; omega))
                                    have rmhr10 : (ga l i2).length * 16 ≤ 140737488355328 := hr10.room
                                    refine wl_op (k := 3) (k' := 4) rfl rfl rfl (wo_run rfl rfl (run_load1 rfl rfl Try.underlying24 rfl (hl.cell S71.um (i := i2) (by first | omega | (simp only [List.length_set, List.length_append, List.length_replicate, List.length_singleton, List.length_cons, List.length_nil]; omega)) 0 rfl (congrArg (fun n => some (Value.slice _ n _)) hn10))) ?_)
                                    refine wl_op (k := 4) (k' := 5) rfl rfl rfl (wo_run rfl rfl (run_move rfl rfl) ?_)
                                    refine wl_op (k := 5) (k' := 6) rfl rfl rfl (wo_run rfl rfl (run_indexM (C := cdVi) j2 rfl rfl rfl sl24 (by first | rfl | omega) hr10 (by first | omega | (simp only [List.length_set, List.length_append, List.length_replicate, List.length_singleton, List.length_cons, List.length_nil]; omega))) ?_)
                                    refine wl_op (k := 6) (k' := 7) rfl rfl rfl (wo_run rfl rfl (run_fieldAddr rfl rfl Try.underlying70 rfl (ce3) (nf3)) ?_)
                                    refine wl_op (k := 7) (k' := 8) rfl rfl rfl (wo_run rfl rfl (run_load1 rfl rfl Try.underlying3 rfl (hr10.cell S71.um (i := j2) (by first | omega | (simp only [List.length_set, List.length_append, List.length_replicate, List.length_singleton, List.length_cons, List.length_nil]; omega)) 0 rfl rfl)) ?_)
                                    refine wl_op (k := 8) (k' := 9) rfl rfl rfl (wo_run rfl rfl (run_assign rfl rfl) ?_)
                                    refine wl_end rfl ?_
                                    refine nm_sub [(0, _), (1, _), (6, _), (16, _), (18, _), (19, _), (20, _), (21, _), (22, _), (23, _)] ⟨rfl, rfl, rfl, rfl, rfl, rfl, rfl, rfl, rfl, rfl, trivial⟩ ?_
                                    refine nm_thn ?_
                                    refine ws_seqN BuildOf_n149 BuildOf_n150 rfl rfl rfl ?_
                                    refine ws_region rfl ?_
                                    refine wl_op (k := 0) (k' := 1) rfl rfl rfl (wo_run rfl rfl (run_fieldAddr rfl rfl Try.underlying27 rfl (ce25) (nf25)) ?_)
                                    refine wl_op (k := 1) (k' := 2) rfl rfl rfl (wo_run rfl rfl (run_load1 rfl rfl Try.underlying25 rfl (S71.boxc (i := 1) rfl rfl)) ?_)
                                    refine wl_op (k := 2) (k' := 3) rfl rfl rfl (wo_run rfl rfl (run_move rfl rfl) ?_)
                                    refine wl_op (k := 3) (k' := 4) rfl rfl rfl (wo_run rfl rfl (run_indexR (C := cdCr) (i := 0) (((ga (ga l i2) j2).c).toNat) rfl rfl rfl sl25 S71 rfl (by first | rfl | omega) (by first | omega | (simp only [List.length_set, List.length_append, List.length_replicate, List.length_singleton, List.length_cons, List.length_nil]; omega))) ?_)
                                    refine wl_op (k := 4) (k' := 5) rfl rfl rfl (wo_run rfl rfl (run_loadN (us := [_, _, _, _, _]) rfl rfl Try.underlying73 rfl sz73 (S71.rowcs (i := 0) (e := ((ga (ga l i2) j2).c).toNat) (j := 0) rfl (by first | omega | (simp only [List.length_set, List.length_append, List.length_replicate, List.length_singleton, List.length_cons, List.length_nil]; omega)) ⟨rfl, rfl, rfl, rfl, rfl, trivial⟩)) ?_)
                                    refine wl_op (k := 5) (k' := 6) rfl rfl rfl (wo_alloc (l := [_, _, _, _, _]) rfl rfl rfl zr73 rfl S71 ?_)
                                    intro gb7 w81 S83; clear S71
                                    refine wl_op (k := 6) (k' := 7) rfl rfl rfl (wo_storeB (i := 0) (us := [_, _, _, _, _]) (l' := [_, _, _, _, _]) (H' := [_, _, _, _]) rfl rfl S83 rfl rfl rfl rfl sz73 rfl rfl rfl rfl ?_)
                                    intro w82 S84; clear S83
                                    refine wl_end rfl ?_
                                    refine nm_sub [(0, _), (1, _), (6, _), (16, _), (18, _), (19, _), (20, _), (21, _), (22, _), (23, _), (24, _)] ⟨rfl, rfl, rfl, rfl, rfl, rfl, rfl, rfl, rfl, rfl, rfl, trivial⟩ ?_
                                    refine nm_thn ?_
                                    refine ws_seqN BuildOf_n151 BuildOf_n152 rfl rfl rfl ?_
                                    refine ws_seqN BuildOf_n153 BuildOf_n154 rfl rfl rfl ?_
                                    refine ws_region rfl ?_
                                    refine wl_op (k := 0) (k' := 1) rfl rfl rfl (wo_run rfl rfl (run_move rfl rfl) ?_)
                                    refine wl_op (k := 1) (k' := 2) rfl rfl rfl (wo_run rfl rfl (run_move rfl rfl) ?_)
                                    refine wl_op (k := 2) (k' := 3) rfl rfl rfl (wo_run rfl rfl (run_indexM (C := (cdV 24)) i2 rfl rfl rfl sl22 (by first | rfl | omega) hl (by first | omega | (simp only [List.length_set, List.length_append, List.length_replicate, List.length_singleton, List.length_cons, List.length_nil]; omega))) ?_)
                                    obtain ⟨hn11, hr11⟩ := hdl.2 i2 (by first | omega | (simp only [List.length_set, List.length_append, List.length_replicate, List.length_singleton, List.length_cons, List.length_nil]; omega))
                                    have rmhr11 : (ga l i2).length * 16 ≤ 140737488355328 := hr11.room
                                    refine wl_op (k := 3) (k' := 4) rfl rfl rfl (wo_run rfl rfl (run_load1 rfl rfl Try.underlying24 rfl (hl.cell S84.um (i := i2) (by first | omega | (simp only [List.length_set, List.length_append, List.length_replicate, List.length_singleton, List.length_cons, List.length_nil]; omega)) 0 rfl (congrArg (fun n => some (Value.slice _ n _)) hn11))) ?_)
                                    refine wl_op (k := 4) (k' := 5) rfl rfl rfl (wo_run rfl rfl (run_move rfl rfl) ?_)
                                    refine wl_op (k := 5) (k' := 6) rfl rfl rfl (wo_run rfl rfl (run_indexM (C := cdVi) j2 rfl rfl rfl sl24 (by first | rfl | omega) hr11 (by first | omega | (simp only [List.length_set, List.length_append, List.length_replicate, List.length_singleton, List.length_cons, List.length_nil]; omega))) ?_)
                                    refine wl_op (k := 6) (k' := 7) rfl rfl rfl (wo_run rfl rfl (run_fieldAddr rfl rfl Try.underlying70 rfl (ce4) (nf4)) ?_)
                                    refine wl_op (k := 7) (k' := 8) rfl rfl rfl (wo_run rfl rfl (run_load1 rfl rfl Try.underlying4 rfl (hr11.cell S84.um (i := j2) (by first | omega | (simp only [List.length_set, List.length_append, List.length_replicate, List.length_singleton, List.length_cons, List.length_nil]; omega)) 1 rfl rfl)) ?_)
                                    refine wl_op (k := 8) (k' := 9) rfl rfl rfl (wo_run rfl rfl (run_not rfl rfl) ?_)
                                    refine wl_end rfl ?_
                                    refine nm_sub [(0, _), (1, _), (6, _), (16, _), (18, _), (19, _), (20, _), (21, _), (22, _), (23, _), (24, _), (190, _)] ⟨rfl, rfl, rfl, rfl, rfl, rfl, rfl, rfl, rfl, rfl, rfl, rfl, trivial⟩ ?_
                                    refine nm_thn ?_
                                    refine ws_condN BuildOf_n155 BuildOf_n156 rfl rfl rfl rfl (fun hb190 => ?_) (fun hb190 => ?_)
                                    · simp only [Bool.and_eq_true, Bool.or_eq_true, Bool.and_eq_false_iff, Bool.or_eq_false_iff, decide_eq_true_eq, decide_eq_false_iff_not, Bool.not_eq_true', Bool.not_eq_false'] at hb190
                                      refine ws_region rfl ?_
                                      refine wl_op (k := 0) (k' := 1) rfl rfl rfl (wo_run rfl rfl (run_move rfl rfl) ?_)
                                      refine wl_op (k := 1) (k' := 2) rfl rfl rfl (wo_run rfl rfl (run_move rfl rfl) ?_)
                                      refine wl_op (k := 2) (k' := 3) rfl rfl rfl (wo_run rfl rfl (run_fieldAddr rfl rfl Try.underlying73 rfl (ce3) (nf3)) ?_)
                                      refine wl_op (k := 3) (k' := 4) rfl rfl rfl (wo_storeB (i := 0) (us := [_]) (l' := [_, _, _, _, _]) (H' := [_, _, _, _]) rfl rfl S84 rfl rfl rfl rfl sz3 rfl rfl rfl rfl ?_)
                                      intro w83 S85; clear S84
                                      refine wl_op (k := 4) (k' := 5) rfl rfl rfl (wo_run rfl rfl (run_fieldAddr rfl rfl Try.underlying73 rfl (ce3) (nf3)) ?_)
                                      refine wl_op (k := 5) (k' := 6) rfl rfl rfl (wo_storeB (i := 0) (us := [_]) (l' := [_, _, _, _, _]) (H' := [_, _, _, _]) rfl rfl S85 rfl rfl rfl rfl sz3 rfl rfl rfl rfl ?_)
                                      intro w84 S86; clear S85
                                      refine wl_end rfl ?_
                                      refine nm_sub [(0, _), (1, _), (6, _), (16, _), (18, _), (19, _), (20, _), (21, _), (23, _), (24, _)] ⟨rfl, rfl, rfl, rfl, rfl, rfl, rfl, rfl, rfl, rfl, trivial⟩ ?_
                                      refine nm_thn ?_
                                      refine ws_seqN BuildOf_n157 BuildOf_n158 rfl rfl rfl ?_
                                      refine ws_region rfl ?_
                                      refine wl_op (k := 0) (k' := 1) rfl rfl rfl (wo_run rfl rfl (run_fieldAddr rfl rfl Try.underlying27 rfl (ce25) (nf25)) ?_)
                                      refine wl_op (k := 1) (k' := 2) rfl rfl rfl (wo_run rfl rfl (run_load1 rfl rfl Try.underlying25 rfl (S86.boxc (i := 2) rfl rfl)) ?_)
                                      refine wl_op (k := 2) (k' := 3) rfl rfl rfl (wo_run rfl rfl (run_move rfl rfl) ?_)
                                      refine wl_op (k := 3) (k' := 4) rfl rfl rfl (wo_run rfl rfl (run_loadN (us := [_, _, _, _, _]) rfl rfl Try.underlying73 rfl sz73 (S86.boxcs (i := 0) rfl ⟨rfl, rfl, rfl, rfl, rfl, trivial⟩)) ?_)
                                      refine wl_op (k := 4) (k' := 5) rfl rfl rfl (wo_run rfl rfl (run_indexR (C := cdCr) (i := 1) (((ga (ga l i2) j2).c).toNat) rfl rfl rfl sl25 S86 rfl (by first | rfl | omega) (by first | omega | (simp only [List.length_set, List.length_append, List.length_replicate, List.length_singleton, List.length_cons, List.length_nil]; omega))) ?_)
                                      refine wl_op (k := 5) (k' := 6) rfl rfl rfl (wo_storeR (C := cdCr) (i := 1) (e := ((ga (ga l i2) j2).c).toNat) (j := 0) (us := [_, _, _, _, _]) (H' := [_, _, _, _]) (⟨wr (x + (j2 : Int)), (ga acc2 (((ga (ga l i2) j2).c).toNat)).b, wr ((wr (x + (j2 : Int))) + 1), (ga acc2 (((ga (ga l i2) j2).c).toNat)).d, (ga acc2 (((ga (ga l i2) j2).c).toNat)).plus⟩ : Cr) rfl rfl S86 rfl (by first | omega | (simp only [List.length_set, List.length_append, List.length_replicate, List.length_singleton, List.length_cons, List.length_nil]; omega)) rfl rfl rfl sz73 rfl rfl rfl rfl ?_)
                                      intro w85 S87; clear S86
                                      refine wl_end rfl ?_
                                      refine nm_sub [(0, _), (1, _), (6, _), (16, _), (18, _), (19, _), (20, _), (21, _)] ⟨rfl, rfl, rfl, rfl, rfl, rfl, rfl, rfl, trivial⟩ ?_
                                      refine nm_thn ?_
                                      refine ws_region rfl ?_
                                      refine wl_op (k := 0) (k' := 1) rfl rfl rfl (wo_run rfl rfl (run_move rfl rfl) ?_)
                                      refine wl_op (k := 1) (k' := 2) rfl rfl rfl (wo_run rfl rfl (run_addW rfl rfl rfl) ?_)
                                      refine wl_op (k := 2) (k' := 3) rfl rfl rfl (wo_run rfl rfl (run_assign rfl rfl) ?_)
                                      refine wl_end rfl ?_
                                      refine nm_blk ?_
                                      refine nm_sub [(0, _), (1, _), (6, _), (16, _), (18, _), (19, _), (20, _), (21, _)] ⟨rfl, rfl, rfl, rfl, rfl, rfl, rfl, rfl, trivial⟩ ?_
                                      refine nm_thn ?_
                                      refine ws_eq 18 (.int .i64 (wr (x + ((j2 + 1 : Nat) : Int)))) rfl (int_eq (wr_next _ _)) ?_
                                      refine ws_region rfl ?_
                                      refine wl_op (k := 0) (k' := 1) rfl rfl rfl (wo_run rfl rfl (run_move rfl rfl) ?_)
                                      refine wl_op (k := 1) (k' := 2) rfl rfl rfl (wo_run rfl rfl (run_add rfl rfl rfl (by first | omega | (simp only [List.length_set, List.length_append, List.length_replicate, List.length_singleton, List.length_cons, List.length_nil]; omega))) ?_)
                                      refine wl_op (k := 2) (k' := 3) rfl rfl rfl (wo_run rfl rfl (run_assign rfl rfl) ?_)
                                      refine wl_end rfl ?_
                                      refine nm_lp ?_
                                      intro ax_ hax_
                                      refine ⟨_, ?hq23m, ⟨j2 + 1, (drawV (ga l i2) x ⟨sb, sa⟩ (j2 + 1)).bl, (drawV (ga l i2) x ⟨sb, sa⟩ (j2 + 1)).ab, _, _, rfl, hax_.sub ⟨rfl, rfl, rfl, rfl, rfl, rfl, rfl, rfl, trivial⟩, S87.pick [1, 2, 3] [_, _, _] (by decide) ⟨rfl, rfl, rfl, trivial⟩, ?hq23f0, ?hq23f1, ?hq23f2, ?hq23f3, ?hq23f4⟩⟩
                                      case hq23f0 => omega
                                      case hq23f1 => rfl
                                      case hq23f2 => (subst hacc2; first | exact draw_B hdv (by simpa using hb190) (by omega) hsb2 (by first | exact arcV_last (by omega) hx | exact arcV_next (by omega)) | exact draw_T hdv (by simpa using hb190) hb198 (by omega) hsa2 (by first | exact arcV_last (by omega) hx | exact arcV_next (by omega)) | exact draw_F hdv (by simpa using hb190) hb198 (by omega) hsa2 (by first | exact arcV_last (by omega) hx | exact arcV_next (by omega)))
                                      case hq23f3 => (rw [(drawV_len _ _ _ _).1]; exact hsb)
                                      case hq23f4 => (rw [(drawV_len _ _ _ _).2]; exact hsa)
                                      case hq23m => omega
                                    · simp only [Bool.and_eq_true, Bool.or_eq_true, Bool.and_eq_false_iff, Bool.or_eq_false_iff, decide_eq_true_eq, decide_eq_false_iff_not, Bool.not_eq_true', Bool.not_eq_false'] at hb190
                                      refine ws_seqN BuildOf_n159 BuildOf_n160 rfl rfl rfl ?_
                                      refine ws_region rfl ?_
                                      refine wl_op (k := 0) (k' := 1) rfl rfl rfl (wo_run rfl rfl (run_move rfl rfl) ?_)
                                      refine wl_op (k := 1) (k' := 2) rfl rfl rfl (wo_run rfl rfl (run_move rfl rfl) ?_)
                                      refine wl_op (k := 2) (k' := 3) rfl rfl rfl (wo_run rfl rfl (run_indexM (C := cdBool) (((ga (ga l i2) j2).c).toNat) rfl rfl rfl sl23 (by first | rfl | omega) hplus (by first | omega | (simp only [List.length_set, List.length_append, List.length_replicate, List.length_singleton, List.length_cons, List.length_nil]; omega))) ?_)
                                      refine wl_op (k := 3) (k' := 4) rfl rfl rfl (wo_run rfl rfl (run_load1 rfl rfl Try.underlying4 rfl (hplus.cell S84.um (i := ((ga (ga l i2) j2).c).toNat) (by first | omega | (simp only [List.length_set, List.length_append, List.length_replicate, List.length_singleton, List.length_cons, List.length_nil]; omega)) 0 rfl rfl)) ?_)
                                      refine wl_end rfl ?_
                                      refine nm_sub [(0, _), (1, _), (6, _), (16, _), (18, _), (19, _), (20, _), (21, _), (22, _), (23, _), (24, _), (198, _)] ⟨rfl, rfl, rfl, rfl, rfl, rfl, rfl, rfl, rfl, rfl, rfl, rfl, trivial⟩ ?_
                                      refine nm_thn ?_
                                      refine ws_condN BuildOf_n161 BuildOf_n162 rfl rfl rfl rfl (fun hb198 => ?_) (fun hb198 => ?_)
                                      · refine ws_region rfl ?_
                                        refine wl_op (k := 0) (k' := 1) rfl rfl rfl (wo_run rfl rfl (run_move rfl rfl) ?_)
                                        refine wl_op (k := 1) (k' := 2) rfl rfl rfl (wo_run rfl rfl (run_move rfl rfl) ?_)
                                        refine wl_op (k := 2) (k' := 3) rfl rfl rfl (wo_run rfl rfl (run_fieldAddr rfl rfl Try.underlying73 rfl (ce3) (nf3)) ?_)
                                        refine wl_op (k := 3) (k' := 4) rfl rfl rfl (wo_storeB (i := 0) (us := [_]) (l' := [_, _, _, _, _]) (H' := [_, _, _, _]) rfl rfl S84 rfl rfl rfl rfl sz3 rfl rfl rfl rfl ?_)
                                        intro w86 S88; clear S84
                                        refine wl_op (k := 4) (k' := 5) rfl rfl rfl (wo_run rfl rfl (run_fieldAddr rfl rfl Try.underlying73 rfl (ce3) (nf3)) ?_)
                                        refine wl_op (k := 5) (k' := 6) rfl rfl rfl (wo_storeB (i := 0) (us := [_]) (l' := [_, _, _, _, _]) (H' := [_, _, _, _]) rfl rfl S88 rfl rfl rfl rfl sz3 rfl rfl rfl rfl ?_)
                                        intro w87 S89; clear S88
                                        refine wl_end rfl ?_
                                        refine nm_sub [(0, _), (1, _), (6, _), (16, _), (18, _), (19, _), (20, _), (21, _), (23, _), (24, _)] ⟨rfl, rfl, rfl, rfl, rfl, rfl, rfl, rfl, rfl, rfl, trivial⟩ ?_
                                        refine nm_thn ?_
                                        refine ws_seqN BuildOf_n157 BuildOf_n158 rfl rfl rfl ?_
                                        refine ws_region rfl ?_
                                        refine wl_op (k := 0) (k' := 1) rfl rfl rfl (wo_run rfl rfl (run_fieldAddr rfl rfl Try.underlying27 rfl (ce25) (nf25)) ?_)
                                        refine wl_op (k := 1) (k' := 2) rfl rfl rfl (wo_run rfl rfl (run_load1 rfl rfl Try.underlying25 rfl (S89.boxc (i := 2) rfl rfl)) ?_)
                                        refine wl_op (k := 2) (k' := 3) rfl rfl rfl (wo_run rfl rfl (run_move rfl rfl) ?_)
                                        refine wl_op (k := 3) (k' := 4) rfl rfl rfl (wo_run rfl rfl (run_loadN (us := [_, _, _, _, _]) rfl rfl Try.underlying73 rfl sz73 (S89.boxcs (i := 0) rfl ⟨rfl, rfl, rfl, rfl, rfl, trivial⟩)) ?_)
                                        refine wl_op (k := 4) (k' := 5) rfl rfl rfl (wo_run rfl rfl (run_indexR (C := cdCr) (i := 1) (((ga (ga l i2) j2).c).toNat) rfl rfl rfl sl25 S89 rfl (by first | rfl | omega) (by first | omega | (simp only [List.length_set, List.length_append, List.length_replicate, List.length_singleton, List.length_cons, List.length_nil]; omega))) ?_)
                                        refine wl_op (k := 5) (k' := 6) rfl rfl rfl (wo_storeR (C := cdCr) (i := 1) (e := ((ga (ga l i2) j2).c).toNat) (j := 0) (us := [_, _, _, _, _]) (H' := [_, _, _, _]) (⟨(ga acc2 (((ga (ga l i2) j2).c).toNat)).a, wr ((wr (x + (j2 : Int))) + 1), (ga acc2 (((ga (ga l i2) j2).c).toNat)).c, wr (x + (j2 : Int)), (ga acc2 (((ga (ga l i2) j2).c).toNat)).plus⟩ : Cr) rfl rfl S89 rfl (by first | omega | (simp only [List.length_set, List.length_append, List.length_replicate, List.length_singleton, List.length_cons, List.length_nil]; omega)) rfl rfl rfl sz73 rfl rfl rfl rfl ?_)
                                        intro w88 S90; clear S89
                                        refine wl_end rfl ?_
                                        refine nm_sub [(0, _), (1, _), (6, _), (16, _), (18, _), (19, _), (20, _), (21, _)] ⟨rfl, rfl, rfl, rfl, rfl, rfl, rfl, rfl, trivial⟩ ?_
                                        refine nm_thn ?_
                                        refine ws_region rfl ?_
                                        refine wl_op (k := 0) (k' := 1) rfl rfl rfl (wo_run rfl rfl (run_move rfl rfl) ?_)
                                        refine wl_op (k := 1) (k' := 2) rfl rfl rfl (wo_run rfl rfl (run_addW rfl rfl rfl) ?_)
                                        refine wl_op (k := 2) (k' := 3) rfl rfl rfl (wo_run rfl rfl (run_assign rfl rfl) ?_)
                                        refine wl_end rfl ?_
                                        refine nm_blk ?_
                                        refine nm_sub [(0, _), (1, _), (6, _), (16, _), (18, _), (19, _), (20, _), (21, _)] ⟨rfl, rfl, rfl, rfl, rfl, rfl, rfl, rfl, trivial⟩ ?_
                                        refine nm_thn ?_
                                        refine ws_eq 18 (.int .i64 (wr (x + ((j2 + 1 : Nat) : Int)))) rfl (int_eq (wr_next _ _)) ?_
                                        refine ws_region rfl ?_
                                        refine wl_op (k := 0) (k' := 1) rfl rfl rfl (wo_run rfl rfl (run_move rfl rfl) ?_)
                                        refine wl_op (k := 1) (k' := 2) rfl rfl rfl (wo_run rfl rfl (run_add rfl rfl rfl (by first | omega | (simp only [List.length_set, List.length_append, List.length_replicate, List.length_singleton, List.length_cons, List.length_nil]; omega))) ?_)
                                        refine wl_op (k := 2) (k' := 3) rfl rfl rfl (wo_run rfl rfl (run_assign rfl rfl) ?_)
                                        refine wl_end rfl ?_
                                        refine nm_lp ?_
                                        intro ax_ hax_
                                        refine ⟨_, ?hq24m, ⟨j2 + 1, (drawV (ga l i2) x ⟨sb, sa⟩ (j2 + 1)).bl, (drawV (ga l i2) x ⟨sb, sa⟩ (j2 + 1)).ab, _, _, rfl, hax_.sub ⟨rfl, rfl, rfl, rfl, rfl, rfl, rfl, rfl, trivial⟩, S90.pick [1, 2, 3] [_, _, _] (by decide) ⟨rfl, rfl, rfl, trivial⟩, ?hq24f0, ?hq24f1, ?hq24f2, ?hq24f3, ?hq24f4⟩⟩
                                        case hq24f0 => omega
                                        case hq24f1 => rfl
                                        case hq24f2 => (subst hacc2; first | exact draw_B hdv (by simpa using hb190) (by omega) hsb2 (by first | exact arcV_last (by omega) hx | exact arcV_next (by omega)) | exact draw_T hdv (by simpa using hb190) hb198 (by omega) hsa2 (by first | exact arcV_last (by omega) hx | exact arcV_next (by omega)) | exact draw_F hdv (by simpa using hb190) hb198 (by omega) hsa2 (by first | exact arcV_last (by omega) hx | exact arcV_next (by omega)))
                                        case hq24f3 => (rw [(drawV_len _ _ _ _).1]; exact hsb)
                                        case hq24f4 => (rw [(drawV_len _ _ _ _).2]; exact hsa)
                                        case hq24m => omega
                                      · refine ws_region rfl ?_
                                        refine wl_op (k := 0) (k' := 1) rfl rfl rfl (wo_run rfl rfl (run_move rfl rfl) ?_)
                                        refine wl_op (k := 1) (k' := 2) rfl rfl rfl (wo_run rfl rfl (run_move rfl rfl) ?_)
                                        refine wl_op (k := 2) (k' := 3) rfl rfl rfl (wo_run rfl rfl (run_fieldAddr rfl rfl Try.underlying73 rfl (ce3) (nf3)) ?_)
                                        refine wl_op (k := 3) (k' := 4) rfl rfl rfl (wo_storeB (i := 0) (us := [_]) (l' := [_, _, _, _, _]) (H' := [_, _, _, _]) rfl rfl S84 rfl rfl rfl rfl sz3 rfl rfl rfl rfl ?_)
                                        intro w89 S91; clear S84
                                        refine wl_op (k := 4) (k' := 5) rfl rfl rfl (wo_run rfl rfl (run_fieldAddr rfl rfl Try.underlying73 rfl (ce3) (nf3)) ?_)
                                        refine wl_op (k := 5) (k' := 6) rfl rfl rfl (wo_storeB (i := 0) (us := [_]) (l' := [_, _, _, _, _]) (H' := [_, _, _, _]) rfl rfl S91 rfl rfl rfl rfl sz3 rfl rfl rfl rfl ?_)
                                        intro w90 S92; clear S91
                                        refine wl_end rfl ?_
                                        refine nm_sub [(0, _), (1, _), (6, _), (16, _), (18, _), (19, _), (20, _), (21, _), (23, _), (24, _)] ⟨rfl, rfl, rfl, rfl, rfl, rfl, rfl, rfl, rfl, rfl, trivial⟩ ?_
                                        refine nm_thn ?_
                                        refine ws_seqN BuildOf_n157 BuildOf_n158 rfl rfl rfl ?_
                                        refine ws_region rfl ?_
                                        refine wl_op (k := 0) (k' := 1) rfl rfl rfl (wo_run rfl rfl (run_fieldAddr rfl rfl Try.underlying27 rfl (ce25) (nf25)) ?_)
                                        refine wl_op (k := 1) (k' := 2) rfl rfl rfl (wo_run rfl rfl (run_load1 rfl rfl Try.underlying25 rfl (S92.boxc (i := 2) rfl rfl)) ?_)
                                        refine wl_op (k := 2) (k' := 3) rfl rfl rfl (wo_run rfl rfl (run_move rfl rfl) ?_)
                                        refine wl_op (k := 3) (k' := 4) rfl rfl rfl (wo_run rfl rfl (run_loadN (us := [_, _, _, _, _]) rfl rfl Try.underlying73 rfl sz73 (S92.boxcs (i := 0) rfl ⟨rfl, rfl, rfl, rfl, rfl, trivial⟩)) ?_)
                                        refine wl_op (k := 4) (k' := 5) rfl rfl rfl (wo_run rfl rfl (run_indexR (C := cdCr) (i := 1) (((ga (ga l i2) j2).c).toNat) rfl rfl rfl sl25 S92 rfl (by first | rfl | omega) (by first | omega | (simp only [List.length_set, List.length_append, List.length_replicate, List.length_singleton, List.length_cons, List.length_nil]; omega))) ?_)
                                        refine wl_op (k := 5) (k' := 6) rfl rfl rfl (wo_storeR (C := cdCr) (i := 1) (e := ((ga (ga l i2) j2).c).toNat) (j := 0) (us := [_, _, _, _, _]) (H' := [_, _, _, _]) (⟨(ga acc2 (((ga (ga l i2) j2).c).toNat)).a, wr (x + (j2 : Int)), (ga acc2 (((ga (ga l i2) j2).c).toNat)).c, wr ((wr (x + (j2 : Int))) + 1), (ga acc2 (((ga (ga l i2) j2).c).toNat)).plus⟩ : Cr) rfl rfl S92 rfl (by first | omega | (simp only [List.length_set, List.length_append, List.length_replicate, List.length_singleton, List.length_cons, List.length_nil]; omega)) rfl rfl rfl sz73 rfl rfl rfl rfl ?_)
                                        intro w91 S93; clear S92
                                        refine wl_end rfl ?_
                                        refine nm_sub [(0, _), (1, _), (6, _), (16, _), (18, _), (19, _), (20, _), (21, _)] ⟨rfl, rfl, rfl, rfl, rfl, rfl, rfl, rfl, trivial⟩ ?_
                                        refine nm_thn ?_
                                        refine ws_region rfl ?_
                                        refine wl_op (k := 0) (k' := 1) rfl rfl rfl (wo_run rfl rfl (run_move rfl rfl) ?_)
                                        refine wl_op (k := 1) (k' := 2) rfl rfl rfl (wo_run rfl rfl (run_addW rfl rfl rfl) ?_)
                                        refine wl_op (k := 2) (k' := 3) rfl rfl rfl (wo_run rfl rfl (run_assign rfl rfl) ?_)
                                        refine wl_end rfl ?_
                                        refine nm_blk ?_
                                        refine nm_sub [(0, _), (1, _), (6, _), (16, _), (18, _), (19, _), (20, _), (21, _)] ⟨rfl, rfl, rfl, rfl, rfl, rfl, rfl, rfl, trivial⟩ ?_
                                        refine nm_thn ?_
                                        refine ws_eq 18 (.int .i64 (wr (x + ((j2 + 1 : Nat) : Int)))) rfl (int_eq (wr_next _ _)) ?_
                                        refine ws_region rfl ?_
                                        refine wl_op (k := 0) (k' := 1) rfl rfl rfl (wo_run rfl rfl (run_move rfl rfl) ?_)
                                        refine wl_op (k := 1) (k' := 2) rfl rfl rfl (wo_run rfl rfl (run_add rfl rfl rfl (by first | omega | (simp only [List.length_set, List.length_append, List.length_replicate, List.length_singleton, List.length_cons, List.length_nil]; omega))) ?_)
                                        refine wl_op (k := 2) (k' := 3) rfl rfl rfl (wo_run rfl rfl (run_assign rfl rfl) ?_)
                                        refine wl_end rfl ?_
                                        refine nm_lp ?_
                                        intro ax_ hax_
                                        refine ⟨_, ?hq25m, ⟨j2 + 1, (drawV (ga l i2) x ⟨sb, sa⟩ (j2 + 1)).bl, (drawV (ga l i2) x ⟨sb, sa⟩ (j2 + 1)).ab, _, _, rfl, hax_.sub ⟨rfl, rfl, rfl, rfl, rfl, rfl, rfl, rfl, trivial⟩, S93.pick [1, 2, 3] [_, _, _] (by decide) ⟨rfl, rfl, rfl, trivial⟩, ?hq25f0, ?hq25f1, ?hq25f2, ?hq25f3, ?hq25f4⟩⟩
                                        case hq25f0 => omega
                                        case hq25f1 => rfl
                                        case hq25f2 => (subst hacc2; first | exact draw_B hdv (by simpa using hb190) (by omega) hsb2 (by first | exact arcV_last (by omega) hx | exact arcV_next (by omega)) | exact draw_T hdv (by simpa using hb190) hb198 (by omega) hsa2 (by first | exact arcV_last (by omega) hx | exact arcV_next (by omega)) | exact draw_F hdv (by simpa using hb190) hb198 (by omega) hsa2 (by first | exact arcV_last (by omega) hx | exact arcV_next (by omega)))
                                        case hq25f3 => (rw [(drawV_len _ _ _ _).1]; exact hsb)
                                        case hq25f4 => (rw [(drawV_len _ _ _ _).2]; exact hsa)
                                        case hq25m => omega
                                · have hb155 := of_decide_eq_false hb155
                                  refine ws_exit rfl rfl ?_
                                  refine nm_blk ?_
                                  refine nm_sub [(0, _), (1, _), (6, _), (16, _), (18, _), (19, _)] ⟨rfl, rfl, rfl, rfl, rfl, rfl, trivial⟩ ?_
                                  refine nm_thn ?_
                                  refine ws_eq 18 (.int .i64 (wr (x + ((ga l i2).length : Int)))) rfl (int_eq (by rw [show j2 = (ga l i2).length by omega])) ?_
                                  refine ws_region rfl ?_
                                  refine wl_op (k := 0) (k' := 1) rfl rfl rfl (wo_run rfl rfl (run_move rfl rfl) ?_)
                                  refine wl_op (k := 1) (k' := 2) rfl rfl rfl (wo_run rfl rfl (run_add rfl rfl rfl (by first | omega | (simp only [List.length_set, List.length_append, List.length_replicate, List.length_singleton, List.length_cons, List.length_nil]; omega))) ?_)
                                  refine wl_op (k := 2) (k' := 3) rfl rfl rfl (wo_run rfl rfl (run_assign rfl rfl) ?_)
                                  refine wl_end rfl ?_
                                  refine nm_lp ?_
                                  intro ax_ hax_
                                  refine ⟨_, ?hq26m, ⟨i2 + 1, sb2, sa2, _, _, _, rfl, hax_.sub ⟨rfl, rfl, rfl, rfl, rfl, rfl, trivial⟩, S71.pick [0, 1, 2] [_, _, _] (by decide) ⟨rfl, rfl, rfl, trivial⟩, ?hq26f0, ?hq26f1, ?hq26f2, ?hq26f3, ?hq26f4, ?hq26f5⟩⟩
                                  case hq26f0 => omega
                                  case hq26f1 => (rw [drawL_succ, hdr]; dsimp only; obtain rfl : j2 = (ga l i2).length := (by omega); rw [hdv])
                                  case hq26f2 => assumption
                                  case hq26f3 => assumption
                                  case hq26f4 => assumption
                                  case hq26f5 => exact wr_in _
                                  case hq26m => omega
                            · have hb145 := of_decide_eq_false hb145
                              refine ws_exit rfl rfl ?_
                              refine nm_sub [(6, _), (16, _)] ⟨rfl, rfl, trivial⟩ ?_
                              refine nm_thn ?_
                              refine ws_seqN BuildOf_n163 BuildOf_n164 rfl rfl rfl ?_
                              refine ws_region rfl ?_
                              refine wl_op (k := 0) (k' := 1) rfl rfl rfl (wo_run rfl rfl (run_loadN (us := [_, _]) rfl rfl Try.underlying27 rfl sz27 (S70.boxcs (i := 1) rfl ⟨rfl, rfl, trivial⟩)) ?_)
                              refine wl_op (k := 1) (k' := 2) rfl rfl rfl (wo_storeB (i := 2) (us := [_, _]) (l' := [_, _]) (H' := [_, _, _]) rfl rfl S70 rfl rfl rfl rfl sz27 rfl (ones_cons (S70.one (i := 0) rfl) (ones_cons rfl rfl)) rfl rfl ?_)
                              intro w92 S94; clear S70
                              refine wl_op (k := 2) (k' := 3) rfl rfl rfl (wo_run rfl rfl (run_assign rfl rfl) ?_)
                              refine wl_end rfl ?_
                              refine nm_sub [(6, _), (7, _)] ⟨rfl, rfl, trivial⟩ ?_
                              refine nm_thn ?_
                              obtain ⟨M26, hle33, S95, ⟨A1, c1, e1, hr12⟩⟩ := S94.pubrow (i := 0) (H' := [_, _, _]) rfl rfl (by (have h9 : acc1.length = plus.length := by rw [hacc1]; exact crsL_len _ _ _); show _ * 40 ≤ _; omega)
                              clear S94; subst e1
                              replace hl := hl.mono (Hp.un_mono hle33 S95.mx)
                              replace hdl := hdl.mono (Hp.un_mono hle33 S95.mx)
                              replace hplus := hplus.mono (Hp.un_mono hle33 S95.mx)
                              refine ws_ret hC [_, _] rfl rfl ⟨⟨_, rfl, loadVarN (us := [_, _]) Try.underlying27 rfl sz27 (S95.boxcs (i := 2) rfl ⟨rfl, rfl, trivial⟩)⟩, rfl, trivial⟩ ?_
                              refine ⟨_, rfl, _, (hle1.trans hle14).trans hle33, (S95.pick [] [] (by decide) trivial), ?_⟩
                              obtain rfl : i2 = l.length := by omega
                              have hE : buildE plus.length l loops = 0 := (by have hlv := hdl.1; unfold buildE; rw [if_neg (by omega)]; rw [if_neg (by rw [badL_false hokl]; exact Bool.false_ne_true)]; rw [if_neg (by unfold twB; rw [← hcs, allI_true (fun q hq => hone q (by omega))]; simp)]; rw [if_neg (by rw [← hem, hb123]; exact Bool.false_ne_true)])
                              have e : buildR l plus loops = (⟨acc1, loops⟩, 0) := by unfold buildR; rw [if_neg (by rw [hE]; simp), hdr, hacc1]
                              rw [e]
                              exact ⟨_, _, rfl, hr12⟩

end Go.Proofs.Ytlbpgnimpcflaaa
