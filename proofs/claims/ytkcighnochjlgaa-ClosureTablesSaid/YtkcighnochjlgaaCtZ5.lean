/- Part 5 of the proof of the law ClosureTables: the walks through its functions and the plain laws that they need. -/
import Derived.Test.YtkcighnochjlgaaCtZ4
set_option linter.unusedSimpArgs false
set_option linter.unusedVariables false
namespace Go.Proofs.Ytkcighnochjlgaa
open Go.ChangeShapes Go.WideShapes Go.ChangeAt Go.RowKit
theorem ga_put {β : Type} [Inhabited β] (ps : List (List β)) (i k : Nat) (x : β) (hi : i < ps.length) (hk : k < (ga ps i).length) (q c : Nat) : ga (ga (ps.set i ((ga ps i).set k x)) q) c = if q = i ∧ c = k then x else ga (ga ps q) c := by
 rw [ga_set _ _ _ _ hi]
 by_cases h : i = q
 ·subst h
  rw [if_pos rfl, ga_set _ _ _ _ hk]
  by_cases h2 : k = c
  ·rw [if_pos h2, if_pos ⟨rfl, h2.symm⟩]
  ·rw [if_neg h2, if_neg (fun h3 => h2 h3.2.symm)]
 ·rw [if_neg h, if_neg (fun h3 => h h3.1.symm)]
theorem len_put {β : Type} [Inhabited β] (ps : List (List β)) (i k : Nat) (x : β) (hi : i < ps.length) (q : Nat) : (ga (ps.set i ((ga ps i).set k x)) q).length = (ga ps q).length := by
 rw [ga_set _ _ _ _ hi]
 split
 ·rename_i h; subst h; rw [List.length_set]
 ·rfl
def ix (a : Int) : Nat := (max a (-a) - 1).toNat
def buX (a : Int) (x y : Pol) : Pol := if a < 0 then y * mono (-1) 1 else x * (mono 0 1 + mono 1 (-1)) + y
def buY (a : Int) (x y : Pol) : Pol := if a < 0 then x + y * (mono 0 1 + mono (-1) (-1)) else x * mono 1 1
def buN (l : List Int) : Nat → Nat → Nat → Pol
 | 0, r, c => if r = c then Pol.i else Pol.o
 | k + 1, r, c => if c = ix (ga l k) then buX (ga l k) (buN l k r (ix (ga l k))) (buN l k r (ix (ga l k) + 1)) else if c = ix (ga l k) + 1 then buY (ga l k) (buN l k r (ix (ga l k))) (buN l k r (ix (ga l k) + 1)) else buN l k r c
theorem mono_one : mono 0 1 = Pol.i := rfl
theorem bu_row {l : List Int} {m j r : Nat} {ps : List (List (Option Pol))} {X Y : Pol} (hX : X = buX (ga l j) (buN l j r (ix (ga l j))) (buN l j r (ix (ga l j) + 1))) (hY : Y = buY (ga l j) (buN l j r (ix (ga l j))) (buN l j r (ix (ga l j) + 1)))
  (h : ∀ q, q < m → ∀ c, c < m → ga (ga ps q) c = some (if q < r then buN l (j + 1) q c else buN l j q c)) (hr : r < m) (hi : ix (ga l j) + 1 < m) (hl : ps.length = m) (hlr : (ga ps r).length = m) :
  ∀ q, q < m → ∀ c, c < m → ga (ga ((ps.set r ((ga ps r).set (ix (ga l j)) (some X))).set r ((ga (ps.set r ((ga ps r).set (ix (ga l j)) (some X))) r).set (ix (ga l j) + 1) (some Y))) q) c = some (if q < r + 1 then buN l (j + 1) q c else buN l j q c) := by
 intro q hq c hc
 rw [ga_put _ _ _ _ (by rw [List.length_set]; omega) (by rw [len_put _ _ _ _ (by omega)]; omega), ga_put _ _ _ _ (by omega) (by omega), h q hq c hc]
 by_cases e : q = r
 ·subst e
  by_cases c2 : c = ix (ga l j) + 1
  ·rw [if_pos ⟨rfl, c2⟩, if_pos (by omega), buN, if_neg (by omega), if_pos c2, hY]
  ·rw [if_neg (fun h => c2 h.2)]
   by_cases c1 : c = ix (ga l j)
   ·rw [if_pos ⟨rfl, c1⟩, if_pos (by omega), buN, if_pos c1, hX]
   ·rw [if_neg (fun h => c1 h.2), if_neg (by omega), if_pos (by omega), buN, if_neg c1, if_neg c2]
 ·rw [if_neg (by omega), if_neg (by omega)]
  by_cases h1 : q < r
  ·rw [if_pos h1, if_pos (by omega)]
  ·rw [if_neg h1, if_neg (by omega)]
def BuOk (n : Int) (l : List Int) (om : List (List (List Tm))) : Prop := om.length = n.toNat ∧ ∀ q, q < n.toNat → (ga om q).length = n.toNat ∧ ∀ c, c < n.toNat → Can (ga (ga om q) c) ∧ mk (pr (ga (ga om q) c)) = buN l l.length q c
def BurT (n : Int) (l : List Int) (u : Value) (N : Hp) : Prop := (checkI n [l] ≠ 0 ∧ u = .tuple [.slice none 0 0, .int .i64 (checkI n [l])].toArray) ∨ (checkI n [l] = 0 ∧ ∃ A c vs ss om, u = .tuple [.slice A vs.length c, .int .i64 0].toArray ∧ RdA (cdV 43) N A c vs ∧ Rd2 (cdV 22) N vs ss ∧ RdD cdTm N ss om ∧ BuOk n l om)
noncomputable def Burau_n0 : Code := Try.f25.body.getD .skip
noncomputable def Burau_n1 : Code := cL Burau_n0
noncomputable def Burau_n2 : Code := cR Burau_n0
noncomputable def Burau_n3 : Code := cL Burau_n2
noncomputable def Burau_n4 : Code := cR Burau_n2
noncomputable def Burau_n5 : Code := cL Burau_n3
noncomputable def Burau_n6 : Code := cR Burau_n3
noncomputable def Burau_n7 : Code := cL Burau_n6
noncomputable def Burau_n8 : Code := cR Burau_n6
noncomputable def Burau_n9 : Code := cL Burau_n8
noncomputable def Burau_n10 : Code := cR Burau_n8
noncomputable def Burau_n11 : Code := cL Burau_n9
noncomputable def Burau_n12 : Code := cR Burau_n9
noncomputable def Burau_n13 : Code := cL Burau_n4
noncomputable def Burau_n14 : Code := cR Burau_n4
noncomputable def Burau_n15 : Code := cL Burau_n14
noncomputable def Burau_n16 : Code := cR Burau_n14
noncomputable def Burau_n17 : Code := cL Burau_n15
noncomputable def Burau_n18 : Code := cR Burau_n15
noncomputable def Burau_n19 : Code := cL Burau_n18
noncomputable def Burau_n20 : Code := cL Burau_n19
noncomputable def Burau_n21 : Code := cL Burau_n20
noncomputable def Burau_n22 : Code := cR Burau_n20
noncomputable def Burau_n23 : Code := cL Burau_n22
noncomputable def Burau_n24 : Code := cR Burau_n22
noncomputable def Burau_n25 : Code := cL Burau_n23
noncomputable def Burau_n26 : Code := cR Burau_n23
noncomputable def Burau_n27 : Code := cL Burau_n24
noncomputable def Burau_n28 : Code := cR Burau_n24
noncomputable def Burau_n29 : Code := cL Burau_n27
noncomputable def Burau_n30 : Code := cL Burau_n29
noncomputable def Burau_n31 : Code := cR Burau_n29
noncomputable def Burau_n32 : Code := cL Burau_n31
noncomputable def Burau_n33 : Code := cR Burau_n31
noncomputable def Burau_n34 : Code := cL Burau_n33
noncomputable def Burau_n35 : Code := cR Burau_n33
noncomputable def Burau_n36 : Code := cL Burau_n34
noncomputable def Burau_n37 : Code := cR Burau_n34
noncomputable def Burau_n38 : Code := cL Burau_n37
noncomputable def Burau_n39 : Code := cL Burau_n38
noncomputable def Burau_n40 : Code := cL Burau_n39
noncomputable def Burau_n41 : Code := cR Burau_n39
noncomputable def Burau_n42 : Code := cL Burau_n41
noncomputable def Burau_n43 : Code := cR Burau_n41
noncomputable def Burau_n44 : Code := cL Burau_n42
noncomputable def Burau_n45 : Code := cR Burau_n42
noncomputable def Burau_n46 : Code := cL Burau_n43
noncomputable def Burau_n47 : Code := cR Burau_n43
noncomputable def Burau_n48 : Code := cL Burau_n46
noncomputable def Burau_n49 : Code := cL Burau_n48
noncomputable def Burau_n50 : Code := cR Burau_n48
noncomputable def Burau_n51 : Code := cL Burau_n16
noncomputable def Burau_n52 : Code := cR Burau_n16
noncomputable def Burau_n53 : Code := cL Burau_n51
noncomputable def Burau_n54 : Code := cR Burau_n51
noncomputable def Burau_n55 : Code := cL Burau_n54
noncomputable def Burau_n56 : Code := cL Burau_n55
noncomputable def Burau_n57 : Code := cL Burau_n56
noncomputable def Burau_n58 : Code := cR Burau_n56
noncomputable def Burau_n59 : Code := cL Burau_n58
noncomputable def Burau_n60 : Code := cR Burau_n58
noncomputable def Burau_n61 : Code := cL Burau_n59
noncomputable def Burau_n62 : Code := cR Burau_n59
noncomputable def Burau_n63 : Code := cL Burau_n60
noncomputable def Burau_n64 : Code := cR Burau_n60
noncomputable def Burau_n65 : Code := cL Burau_n63
noncomputable def Burau_n66 : Code := cL Burau_n65
noncomputable def Burau_n67 : Code := cR Burau_n65
noncomputable def Burau_n68 : Code := cL Burau_n67
noncomputable def Burau_n69 : Code := cR Burau_n67
noncomputable def Burau_n70 : Code := cL Burau_n69
noncomputable def Burau_n71 : Code := cR Burau_n69
noncomputable def Burau_n72 : Code := cL Burau_n71
noncomputable def Burau_n73 : Code := cR Burau_n71
noncomputable def Burau_n74 : Code := cL Burau_n72
noncomputable def Burau_n75 : Code := cR Burau_n72
noncomputable def Burau_n76 : Code := cL Burau_n75
noncomputable def Burau_n77 : Code := cR Burau_n75
noncomputable def Burau_n78 : Code := cL Burau_n73
noncomputable def Burau_n79 : Code := cR Burau_n73
noncomputable def Burau_n80 : Code := cL Burau_n79
noncomputable def Burau_n81 : Code := cL Burau_n80
noncomputable def Burau_n82 : Code := cL Burau_n81
noncomputable def Burau_n83 : Code := cR Burau_n81
noncomputable def Burau_n84 : Code := cL Burau_n83
noncomputable def Burau_n85 : Code := cR Burau_n83
noncomputable def Burau_n86 : Code := cL Burau_n84
noncomputable def Burau_n87 : Code := cR Burau_n84
noncomputable def Burau_n88 : Code := cL Burau_n85
noncomputable def Burau_n89 : Code := cR Burau_n85
noncomputable def Burau_n90 : Code := cL Burau_n88
noncomputable def Burau_n91 : Code := cL Burau_n90
noncomputable def Burau_n92 : Code := cR Burau_n90
noncomputable def Burau_n93 : Code := cL Burau_n92
noncomputable def Burau_n94 : Code := cR Burau_n92
noncomputable def Burau_n95 : Code := cL Burau_n94
noncomputable def Burau_n96 : Code := cR Burau_n94
noncomputable def Burau_n97 : Code := cL Burau_n52
noncomputable def Burau_n98 : Code := cR Burau_n52
noncomputable def Burau_n99 : Code := cL Burau_n98
noncomputable def Burau_n100 : Code := cR Burau_n98
noncomputable def Burau_n101 : Code := cL Burau_n99
noncomputable def Burau_n102 : Code := cR Burau_n99
noncomputable def Burau_n103 : Code := cL Burau_n102
noncomputable def Burau_n104 : Code := cL Burau_n103
noncomputable def Burau_n105 : Code := cL Burau_n104
noncomputable def Burau_n106 : Code := cR Burau_n104
noncomputable def Burau_n107 : Code := cL Burau_n106
noncomputable def Burau_n108 : Code := cR Burau_n106
noncomputable def Burau_n109 : Code := cL Burau_n107
noncomputable def Burau_n110 : Code := cR Burau_n107
noncomputable def Burau_n111 : Code := cL Burau_n108
noncomputable def Burau_n112 : Code := cR Burau_n108
noncomputable def Burau_n113 : Code := cL Burau_n111
noncomputable def Burau_n114 : Code := cL Burau_n113
noncomputable def Burau_n115 : Code := cR Burau_n113
noncomputable def Burau_n116 : Code := cL Burau_n115
noncomputable def Burau_n117 : Code := cR Burau_n115
noncomputable def Burau_n118 : Code := cL Burau_n117
noncomputable def Burau_n119 : Code := cR Burau_n117
noncomputable def Burau_n120 : Code := cL Burau_n118
noncomputable def Burau_n121 : Code := cR Burau_n118
noncomputable def Burau_n122 : Code := cL Burau_n121
noncomputable def Burau_n123 : Code := cL Burau_n122
noncomputable def Burau_n124 : Code := cL Burau_n123
noncomputable def Burau_n125 : Code := cR Burau_n123
noncomputable def Burau_n126 : Code := cL Burau_n125
noncomputable def Burau_n127 : Code := cR Burau_n125
noncomputable def Burau_n128 : Code := cL Burau_n126
noncomputable def Burau_n129 : Code := cR Burau_n126
noncomputable def Burau_n130 : Code := cL Burau_n127
noncomputable def Burau_n131 : Code := cR Burau_n127
noncomputable def Burau_n132 : Code := cL Burau_n130
noncomputable def Burau_n133 : Code := cL Burau_n132
noncomputable def Burau_n134 : Code := cR Burau_n132
noncomputable def Burau_n135 : Code := cL Burau_n100
noncomputable def Burau_n136 : Code := cR Burau_n100
set_option maxHeartbeats 2000000 in
set_option maxRecDepth 10000 in
theorem Burau_t {w : World} {M : Hp} {X : Fr} (n : Int) (l : List Int) {lA : Option Addr} {lc : Nat} (hl : RdA cdInt (M.un X.h) lA lc l) (S : SH w M X []) : Ct Try.prog 25 [.int .i64 n, .slice lA l.length lc] w M X (BurT n l) := by
 unfold Ct
 have rmhl : l.length * 8 ≤ 140737488355328 := hl.room
 refine calls_in (b := Burau_n0) Try.func25 rfl Try.ntmps25 rfl (fun C hC => ?_)
 refine ws_sub [(0, _), (1, _)] ⟨rfl, rfl, trivial⟩ ?_
 refine ws_seqN Burau_n1 Burau_n2 rfl rfl rfl ?_
 refine ws_region rfl ?_
 refine wla 0 1 rfl rfl rfl rfl rfl rfl rfl ?_
 refine wla 1 2 rfl rfl rfl rfl rfl rfl rfl ?_
 refine wl_end rfl ?_
 refine nm_sub [(0, _), (1, _)] ⟨rfl, rfl, trivial⟩ ?_
 refine nm_thn ?_
 refine ws_seqN Burau_n3 Burau_n4 rfl rfl rfl ?_
 refine ws_seqN Burau_n5 Burau_n6 rfl rfl rfl ?_
 refine ws_region rfl ?_
 refine wlm 0 1 rfl rfl rfl rfl rfl rfl rfl ?_
 refine wlm 1 2 rfl rfl rfl rfl rfl rfl rfl ?_
 refine wlo 2 3 rfl rfl rfl (wo_buildSlice1 (C := (cdV 36)) (l := [_]) rfl rfl rfl rfl sl66 rfl rfl rfl rfl S ?_)
 intro gb1 w1 S1; clear S
 have hr1 := S1.lendBox (C := (cdV 36)) (z := (⟨lA, l.length, lc⟩ : SlV)) (i := 0) rfl rfl (by decide)
 have hd1 : Rd2 cdInt _ [(⟨lA, l.length, lc⟩ : SlV)] [l] := Rd2.nil_.snoc (hl.mono S1.un_XH)
 have hcall1 := Check_q n [l] hr1 hd1 S1.lend
 refine wlo 3 4 rfl rfl rfl (wo_cq rfl rfl rfl rfl rfl rfl rfl cf62 S1 (hcall1) ?_)
 rintro _ w2 S2 rfl; clear S1
 refine wla 4 5 rfl rfl rfl rfl rfl rfl rfl ?_
 refine wl_end rfl ?_
 refine nm_sub [(0, _), (1, _), (6, _)] ⟨rfl, rfl, rfl, trivial⟩ ?_
 refine nm_thn ?_
 refine ws_seqN Burau_n7 Burau_n8 rfl rfl rfl ?_
 refine ws_region rfl ?_
 refine wlm 0 1 rfl rfl rfl rfl rfl rfl rfl ?_
 refine wlo 1 2 rfl rfl rfl (wo_run rfl rfl (run_neq rfl rfl rfl) ?_)
 refine wl_end rfl ?_
 refine nm_sub [(0, _), (1, _), (6, _), (29, _)] ⟨rfl, rfl, rfl, rfl, trivial⟩ ?_
 refine nm_thn ?_
 refine ws_condN Burau_n9 Burau_n10 rfl rfl rfl rfl (fun hb29 => ?_) (fun hb29 => ?_)
 ·have hb29 := of_decide_eq_true hb29
  refine ws_seqN Burau_n11 Burau_n12 rfl rfl rfl ?_
  refine ws_region rfl ?_
  refine wlm 0 1 rfl rfl rfl rfl rfl rfl rfl ?_
  refine wla 1 2 rfl rfl rfl rfl rfl rfl rfl ?_
  refine wla 2 3 rfl rfl rfl rfl rfl rfl rfl ?_
  refine wl_end rfl ?_
  refine nm_sub [(4, _), (5, _)] ⟨rfl, rfl, trivial⟩ ?_
  refine nm_thn ?_
  refine ws_ret hC [_, _] rfl rfl ⟨rfl, rfl, trivial⟩ ?_
  refine ⟨_, rfl, _, Hp.le_refl _, (S2.pick [] [] (by decide) trivial), ?_⟩
  exact .inl ⟨by omega, rfl⟩
 ·have hb29 := of_decide_eq_false hb29
  have hck : checkI n [l] = 0 := by omega
  obtain ⟨hn2, hn6, hl20, hlb⟩ := check_ok hck
  obtain ⟨m, hm⟩ : ∃ m : Nat, n = (m : Int) := ⟨n.toNat, by omega⟩
  refine ws_eq 0 (.int .i64 (m : Int)) rfl (int_eq hm) ?_
  refine ws_skip rfl ?_
  refine nm_sub [(0, _), (1, _)] ⟨rfl, rfl, trivial⟩ ?_
  refine nm_thn ?_
  refine ws_seqN Burau_n13 Burau_n14 rfl rfl rfl ?_
  refine ws_region rfl ?_
  refine wlm 0 1 rfl rfl rfl rfl rfl rfl rfl ?_
  refine wlo 1 2 rfl rfl rfl (wo_make (C := (cdV 91)) m rfl rfl rfl rfl rfl sl90 (by first | rfl | omega) (by show _ * 24 ≤ _; first | omega | (simp only [lens]; omega)) S2 ?_)
  intro vr1 w3 S3; clear S2
  have S4 := S3.newtab (cdMap 84) m; clear S3
  have hTt1 : WksA (fun _ => 1) M (List.replicate m []) (List.replicate m []) := WksA.rep _ _ _
  refine wla 2 3 rfl rfl rfl rfl rfl rfl rfl ?_
  refine wl_end rfl ?_
  refine nm_sub [(0, _), (1, _), (7, _)] ⟨rfl, rfl, rfl, trivial⟩ ?_
  refine nm_thn ?_
  refine ws_seqN Burau_n15 Burau_n16 rfl rfl rfl ?_
  refine ws_seqN Burau_n17 Burau_n18 rfl rfl rfl ?_
  refine ws_region rfl ?_
  refine wlm 0 1 rfl rfl rfl rfl rfl rfl rfl ?_
  refine wlo 1 2 rfl rfl rfl (wo_run rfl rfl (run_lenR (C := (cdV 91)) (i := 1) rfl rfl rfl rfl rfl rfl sl90 S4 rfl) ?_)
  refine wl_eq 34 (.int .i64 (m : Int)) rfl (int_eq (by rw [List.length_replicate])) ?_
  refine wlm 2 3 rfl rfl rfl rfl rfl rfl rfl ?_
  refine wl_end rfl ?_
  refine nm_sub [(0, _), (1, _), (7, _), (34, _), (35, _)] ⟨rfl, rfl, rfl, rfl, rfl, trivial⟩ ?_
  refine nm_thn ?_
  refine ws_blockN Burau_n19 0 rfl rfl rfl ?_
  refine ws_loopE (fun mx_ ax_ wx_ => ∃ (i : Nat) (vs : List SlV) (xs : List (List (Option Nat))) (ps : List (List (Option Pol))) (vri : Value) (M1 : Hp), M.le M1 ∧ mx_ = m - i ∧ Env 171 [(0, .int .i64 (m : Int)), (1, .slice lA l.length lc), (7, vri), (34, .int .i64 (m : Int)), (35, .int .i64 (i : Int))] ax_ ∧ SH wx_ M1 X [Rs.tab (cdMap 84) vs xs, Rs.row (cdV 91) vri vs] ∧ i ≤ m ∧ vs.length = m ∧ xs.length = m ∧ (∀ q, q < i → (ga xs q).length = m) ∧ (∀ q, q < i → ∀ c, c < m → ga (ga ps q) c = some (buN l 0 q c)) ∧ WksA (fun _ => 1) M1 xs ps) rfl ?_ ?_
  ·intro ax_ hax_
   refine ⟨_, ⟨0, _, _, (List.replicate m []), _, _, Hp.le_refl _, rfl, hax_.sub ⟨rfl, rfl, rfl, rfl, rfl, trivial⟩, S4.pick [0, 1] [_, _] (by decide) ⟨rfl, rfl, trivial⟩, ?hq1f0, ?hq1f1, ?hq1f2, ?hq1f3, ?hq1f4, ?hq1f5⟩⟩
   case hq1f0 => omega
   case hq1f1 => simp
   case hq1f2 => simp
   case hq1f3 => (intro q hq; omega)
   case hq1f4 => (intro q hq; omega)
   case hq1f5 => exact hTt1
  ·rintro m1 a1 w4 ⟨i, vs, xs, ps, vri, M1, hle1, rfl, he1, S5, hi, hv, hx, hxl, hps, hT0⟩
   clear S4
   refine ws_in he1 (c := Burau_n20) rfl ?_
   clear he1 a1
   replace hl := hl.mono (Hp.un_mono hle1 S5.mx)
   replace hTt1 := hTt1.mono hle1
   have hT0l := hT0.1
   refine ws_seqN Burau_n21 Burau_n22 rfl rfl rfl ?_
   refine ws_region rfl ?_
   refine wlo 0 1 rfl rfl rfl (wo_run rfl rfl (run_lss rfl rfl rfl) ?_)
   refine wl_end rfl ?_
   refine nm_thn ?_
   refine ws_seqN Burau_n23 Burau_n24 rfl rfl rfl ?_
   refine ws_condN Burau_n25 Burau_n26 rfl rfl rfl rfl (fun hb36 => ?_) (fun hb36 => ?_)
   ·have hb36 := of_decide_eq_true hb36
    refine ws_skip rfl ?_
    refine nm_sub [(0, _), (1, _), (7, _), (34, _), (35, _)] ⟨rfl, rfl, rfl, rfl, rfl, trivial⟩ ?_
    refine nm_thn ?_
    refine ws_seqN Burau_n27 Burau_n28 rfl rfl rfl ?_
    refine ws_blockN Burau_n29 1 rfl rfl rfl ?_
    refine ws_seqN Burau_n30 Burau_n31 rfl rfl rfl ?_
    refine ws_region rfl ?_
    refine wlm 0 1 rfl rfl rfl rfl rfl rfl rfl ?_
    refine wla 1 2 rfl rfl rfl rfl rfl rfl rfl ?_
    refine wl_end rfl ?_
    refine nm_sub [(0, _), (1, _), (7, _), (34, _), (35, _), (8, _)] ⟨rfl, rfl, rfl, rfl, rfl, rfl, trivial⟩ ?_
    refine nm_thn ?_
    refine ws_seqN Burau_n32 Burau_n33 rfl rfl rfl ?_
    refine ws_region rfl ?_
    refine wlm 0 1 rfl rfl rfl rfl rfl rfl rfl ?_
    refine wlm 1 2 rfl rfl rfl rfl rfl rfl rfl ?_
    refine wlm 2 3 rfl rfl rfl rfl rfl rfl rfl ?_
    refine wlo 3 4 rfl rfl rfl (wo_make (C := (cdMap 84)) m rfl rfl rfl rfl rfl sl91 (by first | rfl | omega) (by show _ * 8 ≤ _; first | omega | (simp only [lens]; omega)) S5 ?_)
    intro vr2 w5 S6; clear S5
    have hd2 : Wks (fun _ => 1) M1 (List.replicate m ((cdMap 84)).z) (List.replicate m none) := Wks.rep _ _ _
    refine wlo 4 5 rfl rfl rfl (wo_run rfl rfl (run_indexR (C := (cdV 91)) (i := 2) i rfl rfl rfl sl90 S6 rfl (by first | rfl | omega) (by first | omega | (simp only [lens]; omega))) ?_)
    obtain ⟨A1, c1, rfl, _⟩ := S6.sl (i := 0) rfl
    have S8 := S6.tabput (C := (cdMap 84)) (zs := (List.replicate m none)) (i := 1) (q := 0) (H' := [_, _, _]) i rfl rfl (by decide) (by first | omega | (simp only [lens]; omega) | (rw [ga_set _ _ _ _ (by first | omega | (simp only [List.length_set]; omega)), if_pos rfl]; simp only [List.length_set]; omega)) rfl; clear S6
    have hTt2 := hT0.set_ (i := i) hd2 (by first | omega | (simp only [lens]; omega) | (rw [ga_set _ _ _ _ (by first | omega | (simp only [List.length_set]; omega)), if_pos rfl]; simp only [List.length_set]; omega))
    refine wlo 5 6 rfl rfl rfl (wo_storeR (C := (cdV 91)) (i := 2) (e := i) (j := 0) (us := [_]) (H' := [_, _, _]) (⟨A1, (List.replicate m none).length, c1⟩ : SlV) rfl rfl S8 rfl (by first | omega | (simp only [lens]; omega)) rfl rfl rfl sz91 rfl rfl rfl rfl ?_)
    intro w7 S9; clear S8
    refine wl_end rfl ?_
    refine nm_sub [(0, _), (1, _), (7, _), (34, _), (35, _), (8, _)] ⟨rfl, rfl, rfl, rfl, rfl, rfl, trivial⟩ ?_
    refine nm_thn ?_
    refine ws_seqN Burau_n34 Burau_n35 rfl rfl rfl ?_
    refine ws_seqN Burau_n36 Burau_n37 rfl rfl rfl ?_
    refine ws_region rfl ?_
    refine wlm 0 1 rfl rfl rfl rfl rfl rfl rfl ?_
    refine wlm 1 2 rfl rfl rfl rfl rfl rfl rfl ?_
    refine wlo 2 3 rfl rfl rfl (wo_run rfl rfl (run_indexR (C := (cdV 91)) (i := 2) i rfl rfl rfl sl90 S9 rfl (by first | rfl | omega) (by first | omega | (simp only [lens]; omega))) ?_)
    refine wlo 3 4 rfl rfl rfl (wo_run rfl rfl (run_load1 rfl rfl Try.underlying91 rfl (S9.rowc (i := 2) (e := i) (j := 0) rfl (by first | omega | (simp only [lens]; omega)) rfl rfl)) ?_)
    refine wlo 4 5 rfl rfl rfl (wo_run rfl rfl (run_lenT (C := (cdMap 84)) (vs := (vs.set i (⟨A1, (List.replicate m none).length, c1⟩ : SlV))) (xss := (xs.set i (List.replicate m none))) (k := i) (i := 1) rfl rfl rfl rfl rfl rfl rfl sl91 S9 rfl (by first | omega | (simp only [lens]; omega) | (rw [ga_set _ _ _ _ (by first | omega | (simp only [List.length_set]; omega)), if_pos rfl]; simp only [List.length_set]; omega))) ?_)
    refine wl_eq 47 (.int .i64 (m : Int)) rfl (int_eq (by rw [ga_set _ _ _ _ (by omega), if_pos rfl, List.length_replicate])) ?_
    refine wlm 5 6 rfl rfl rfl rfl rfl rfl rfl ?_
    refine wl_end rfl ?_
    refine nm_sub [(0, _), (1, _), (7, _), (34, _), (35, _), (8, _), (47, _), (48, _)] ⟨rfl, rfl, rfl, rfl, rfl, rfl, rfl, rfl, trivial⟩ ?_
    refine nm_thn ?_
    refine ws_blockN Burau_n38 2 rfl rfl rfl ?_
    refine ws_loopE (fun mx_ ax_ wx_ => ∃ (k : Nat) (vs1 : List SlV) (xs1 : List (List (Option Nat))) (ps1 : List (List (Option Pol))) (vrk1 : Value) (M2 : Hp), M1.le M2 ∧ mx_ = m - k ∧ Env 171 [(0, .int .i64 (m : Int)), (1, .slice lA l.length lc), (7, vrk1), (34, .int .i64 (m : Int)), (35, .int .i64 (i : Int)), (8, .int .i64 (i : Int)), (47, .int .i64 (m : Int)), (48, .int .i64 (k : Int))] ax_ ∧ SH wx_ M2 X [Rs.tab (cdMap 84) vs1 xs1, Rs.row (cdV 91) vrk1 vs1] ∧ k ≤ m ∧ vs1.length = m ∧ xs1.length = m ∧ (∀ q, q < i + 1 → (ga xs1 q).length = m) ∧ (∀ q, q < i → ∀ c, c < m → ga (ga ps1 q) c = some (buN l 0 q c)) ∧ (∀ c, c < k → ga (ga ps1 i) c = some Pol.o) ∧ WksA (fun _ => 1) M2 xs1 ps1) rfl ?_ ?_
    ·intro ax_ hax_
     refine ⟨_, ⟨0, _, _, (ps.set i (List.replicate m none)), _, _, Hp.le_refl _, rfl, hax_.sub ⟨rfl, rfl, rfl, rfl, rfl, rfl, rfl, rfl, trivial⟩, S9.pick [1, 2] [_, _] (by decide) ⟨rfl, rfl, trivial⟩, ?hq2f0, ?hq2f1, ?hq2f2, ?hq2f3, ?hq2f4, ?hq2f5, ?hq2f6⟩⟩
     case hq2f0 => omega
     case hq2f1 => (rw [List.length_set]; exact hv)
     case hq2f2 => (rw [List.length_set]; exact hx)
     case hq2f3 => (intro q hq; rw [ga_set _ _ _ _ (by omega)]; split; (rw [List.length_replicate]); (exact hxl q (by omega)))
     case hq2f4 => (intro q hq c hc; rw [ga_set _ _ _ _ (by omega), if_neg (by omega)]; exact hps q hq c hc)
     case hq2f5 => (intro c hc; omega)
     case hq2f6 => exact hTt2
    ·rintro m2 a2 w8 ⟨k, vs1, xs1, ps1, vrk1, M2, hle2, rfl, he2, S10, hk, hv1, hx1, hxl1, hps1, hpo, hT1⟩
     clear S9
     refine ws_in he2 (c := Burau_n39) rfl ?_
     clear he2 a2
     replace hl := hl.mono (Hp.un_mono hle2 S10.mx)
     replace hTt1 := hTt1.mono hle2
     replace hT0 := hT0.mono hle2
     replace hd2 := hd2.mono hle2
     replace hTt2 := hTt2.mono hle2
     have hT1l := hT1.1
     have hT1i := (hT1.2 i (by omega)).1
     have hxi := hxl1 i (by omega)
     refine ws_seqN Burau_n40 Burau_n41 rfl rfl rfl ?_
     refine ws_region rfl ?_
     refine wlo 0 1 rfl rfl rfl (wo_run rfl rfl (run_lss rfl rfl rfl) ?_)
     refine wl_end rfl ?_
     refine nm_thn ?_
     refine ws_seqN Burau_n42 Burau_n43 rfl rfl rfl ?_
     refine ws_condN Burau_n44 Burau_n45 rfl rfl rfl rfl (fun hb49 => ?_) (fun hb49 => ?_)
     ·have hb49 := of_decide_eq_true hb49
      refine ws_skip rfl ?_
      refine nm_sub [(0, _), (1, _), (7, _), (34, _), (35, _), (8, _), (47, _), (48, _)] ⟨rfl, rfl, rfl, rfl, rfl, rfl, rfl, rfl, trivial⟩ ?_
      refine nm_thn ?_
      refine ws_seqN Burau_n46 Burau_n47 rfl rfl rfl ?_
      refine ws_blockN Burau_n48 3 rfl rfl rfl ?_
      refine ws_seqN Burau_n49 Burau_n50 rfl rfl rfl ?_
      refine ws_region rfl ?_
      refine wlm 0 1 rfl rfl rfl rfl rfl rfl rfl ?_
      refine wla 1 2 rfl rfl rfl rfl rfl rfl rfl ?_
      refine wl_end rfl ?_
      refine nm_sub [(0, _), (1, _), (7, _), (34, _), (35, _), (8, _), (47, _), (48, _), (9, _)] ⟨rfl, rfl, rfl, rfl, rfl, rfl, rfl, rfl, rfl, trivial⟩ ?_
      refine nm_thn ?_
      refine ws_region rfl ?_
      refine wlm 0 1 rfl rfl rfl rfl rfl rfl rfl ?_
      refine wlm 1 2 rfl rfl rfl rfl rfl rfl rfl ?_
      refine wlo 2 3 rfl rfl rfl (wo_run rfl rfl (run_indexR (C := (cdV 91)) (i := 1) i rfl rfl rfl sl90 S10 rfl (by first | rfl | omega) (by first | omega | (simp only [lens]; omega))) ?_)
      refine wlo 3 4 rfl rfl rfl (wo_run rfl rfl (run_load1 rfl rfl Try.underlying91 rfl (S10.rowc (i := 1) (e := i) (j := 0) rfl (by first | omega | (simp only [lens]; omega)) rfl rfl)) ?_)
      refine wlm 4 5 rfl rfl rfl rfl rfl rfl rfl ?_
      refine wlo 5 6 rfl rfl rfl (wo_makeMap Int Int (Value.int .i64) (Value.int .i64) rfl rfl rfl S10 ?_)
      intro gm3 w9 S11; clear S10
      refine wlo 6 7 rfl rfl rfl (wo_run rfl rfl (run_indexT (C := (cdMap 84)) (vs := vs1) (xss := xs1) (i := 1) i k rfl rfl rfl rfl sl91 S11 rfl (by first | omega | (simp only [lens]; omega) | (rw [ga_set _ _ _ _ (by first | omega | (simp only [List.length_set]; omega)), if_pos rfl]; simp only [List.length_set]; omega)) (by first | rfl | omega) (by first | omega | (simp only [lens]; omega) | (rw [ga_set _ _ _ _ (by first | omega | (simp only [List.length_set]; omega)), if_pos rfl]; simp only [List.length_set]; omega))) ?_)
      obtain ⟨M3, hle3, S13, hm1⟩ := S11.pubmap (i := 0) (H' := [_, _, _]) rfl rfl; clear S11
      replace hl := hl.mono (Hp.un_mono hle3 S13.mx)
      replace hTt1 := hTt1.mono hle3
      replace hT0 := hT0.mono hle3
      replace hd2 := hd2.mono hle3
      replace hTt2 := hTt2.mono hle3
      replace hT1 := hT1.mono hle3
      have hw1 : Wk M3 gm3 (1) (mk ([])) := ⟨_, hm1, (Ents.nil_ 1), rfl⟩
      have hw2 : Wk M3 gm3 1 Pol.o := by rw [show Pol.o = (mk ([])) from rfl]; exact hw1
      refine wlo 7 8 rfl rfl rfl (wo_storeT (C := (cdMap 84)) (vs := vs1) (xss := xs1) (i := 1) (k := i) (e := k) (j := 0) (us := [_]) (H' := [_, _, _]) (some gm3) rfl rfl S13 rfl (by first | omega | (simp only [lens]; omega) | (rw [ga_set _ _ _ _ (by first | omega | (simp only [List.length_set]; omega)), if_pos rfl]; simp only [List.length_set]; omega)) (by first | omega | (simp only [lens]; omega) | (rw [ga_set _ _ _ _ (by first | omega | (simp only [List.length_set]; omega)), if_pos rfl]; simp only [List.length_set]; omega)) rfl rfl rfl sz84 rfl rfl rfl rfl ?_)
      intro w11 S14; clear S13
      have hTt3 := hT1.put i k (hw2.up (by exact Nat.le_refl _)) (by first | omega | (simp only [lens]; omega) | (rw [ga_set _ _ _ _ (by first | omega | (simp only [List.length_set]; omega)), if_pos rfl]; simp only [List.length_set]; omega)) (by first | omega | (simp only [lens]; omega) | (rw [ga_set _ _ _ _ (by first | omega | (simp only [List.length_set]; omega)), if_pos rfl]; simp only [List.length_set]; omega))
      refine wl_end rfl ?_
      refine nm_blk ?_
      refine nm_sub [(0, _), (1, _), (7, _), (34, _), (35, _), (8, _), (47, _), (48, _)] ⟨rfl, rfl, rfl, rfl, rfl, rfl, rfl, rfl, trivial⟩ ?_
      refine nm_thn ?_
      refine ws_region rfl ?_
      refine wlo 0 1 rfl rfl rfl (wo_run rfl rfl (run_add rfl rfl rfl (by first | omega | (simp only [lens]; omega))) ?_)
      refine wlm 1 2 rfl rfl rfl rfl rfl rfl rfl ?_
      refine wl_end rfl ?_
      refine nm_lp ?_
      intro ax_ hax_
      refine ⟨_, ?hq3m, ⟨k + 1, _, _, (ps1.set i ((ga ps1 i).set k (some Pol.o))), _, _, (hle2.trans hle3), rfl, hax_.sub ⟨rfl, rfl, rfl, rfl, rfl, rfl, rfl, rfl, trivial⟩, S14.pick [1, 2] [_, _] (by decide) ⟨rfl, rfl, trivial⟩, ?hq3f0, ?hq3f1, ?hq3f2, ?hq3f3, ?hq3f4, ?hq3f5, ?hq3f6⟩⟩
      case hq3f0 => omega
      case hq3f1 => assumption
      case hq3f2 => (rw [List.length_set]; exact hx1)
      case hq3f3 => (intro q hq; rw [len_put _ _ _ _ (by omega)]; exact hxl1 q hq)
      case hq3f4 => (intro q hq c hc; rw [ga_put _ _ _ _ (by omega) (by omega), if_neg (by omega)]; exact hps1 q hq c hc)
      case hq3f5 => (intro c hc; rw [ga_put _ _ _ _ (by omega) (by omega)]; by_cases e : c = k; (rw [if_pos ⟨rfl, e⟩]); (rw [if_neg (fun h => e h.2)]; exact hpo c (by omega)))
      case hq3f6 => exact hTt3
      case hq3m => omega
     ·have hb49 := of_decide_eq_false hb49
      refine ws_exit rfl rfl ?_
      refine nm_sub [(0, _), (1, _), (7, _), (34, _), (35, _), (8, _)] ⟨rfl, rfl, rfl, rfl, rfl, rfl, trivial⟩ ?_
      refine nm_thn ?_
      obtain rfl : k = m := by omega
      have hT1l := hT1.1
      have hT1i := (hT1.2 i (by omega)).1
      have hxi := hxl1 i (by omega)
      refine ws_region rfl ?_
      refine wlm 0 1 rfl rfl rfl rfl rfl rfl rfl ?_
      refine wlm 1 2 rfl rfl rfl rfl rfl rfl rfl ?_
      refine wlo 2 3 rfl rfl rfl (wo_run rfl rfl (run_indexR (C := (cdV 91)) (i := 1) i rfl rfl rfl sl90 S10 rfl (by first | rfl | omega) (by first | omega | (simp only [lens]; omega))) ?_)
      refine wlo 3 4 rfl rfl rfl (wo_run rfl rfl (run_load1 rfl rfl Try.underlying91 rfl (S10.rowc (i := 1) (e := i) (j := 0) rfl (by first | omega | (simp only [lens]; omega)) rfl rfl)) ?_)
      refine wlm 4 5 rfl rfl rfl rfl rfl rfl rfl ?_
      refine wlo 5 6 rfl rfl rfl (wo_makeMap Int Int (Value.int .i64) (Value.int .i64) rfl rfl rfl S10 ?_)
      intro gm4 w12 S15; clear S10
      refine wlo 6 7 rfl rfl rfl (wo_mapUpdate (kc := Value.int .i64) (vc := Value.int .i64) (es := ([])) (k := 0) (e := 1) (i := 0) (H' := [_, _, _]) (.inr rfl) rfl S15 rfl rfl rfl rfl Try.underlying84 mk3 rfl ?_)
      intro w13 S16; clear S15
      refine wlm 7 8 rfl rfl rfl rfl rfl rfl rfl ?_
      refine wlo 8 9 rfl rfl rfl (wo_run rfl rfl (run_indexT (C := (cdMap 84)) (vs := vs1) (xss := xs1) (i := 1) i i rfl rfl rfl rfl sl91 S16 rfl (by first | omega | (simp only [lens]; omega) | (rw [ga_set _ _ _ _ (by first | omega | (simp only [List.length_set]; omega)), if_pos rfl]; simp only [List.length_set]; omega)) (by first | rfl | omega) (by first | omega | (simp only [lens]; omega) | (rw [ga_set _ _ _ _ (by first | omega | (simp only [List.length_set]; omega)), if_pos rfl]; simp only [List.length_set]; omega))) ?_)
      obtain ⟨M4, hle4, S18, hm2⟩ := S16.pubmap (i := 0) (H' := [_, _, _]) rfl rfl; clear S16
      replace hl := hl.mono (Hp.un_mono hle4 S18.mx)
      replace hTt1 := hTt1.mono hle4
      replace hT0 := hT0.mono hle4
      replace hd2 := hd2.mono hle4
      replace hTt2 := hTt2.mono hle4
      replace hT1 := hT1.mono hle4
      have hw3 : Wk M4 gm4 (1) (mk (mp 0 1 ([]))) := ⟨_, hm2, (mp_ents (Ents.nil_ 1) (by omega) (wr_id (by omega))), rfl⟩
      have hw4 : Wk M4 gm4 1 Pol.i := by rw [show Pol.i = (mk (mp 0 1 ([]))) from rfl]; exact hw3
      refine wlo 9 10 rfl rfl rfl (wo_storeT (C := (cdMap 84)) (vs := vs1) (xss := xs1) (i := 1) (k := i) (e := i) (j := 0) (us := [_]) (H' := [_, _, _]) (some gm4) rfl rfl S18 rfl (by first | omega | (simp only [lens]; omega) | (rw [ga_set _ _ _ _ (by first | omega | (simp only [List.length_set]; omega)), if_pos rfl]; simp only [List.length_set]; omega)) (by first | omega | (simp only [lens]; omega) | (rw [ga_set _ _ _ _ (by first | omega | (simp only [List.length_set]; omega)), if_pos rfl]; simp only [List.length_set]; omega)) rfl rfl rfl sz84 rfl rfl rfl rfl ?_)
      intro w15 S19; clear S18
      have hTt4 := hT1.put i i (hw4.up (by exact Nat.le_refl _)) (by first | omega | (simp only [lens]; omega) | (rw [ga_set _ _ _ _ (by first | omega | (simp only [List.length_set]; omega)), if_pos rfl]; simp only [List.length_set]; omega)) (by first | omega | (simp only [lens]; omega) | (rw [ga_set _ _ _ _ (by first | omega | (simp only [List.length_set]; omega)), if_pos rfl]; simp only [List.length_set]; omega))
      refine wl_end rfl ?_
      refine nm_blk ?_
      refine nm_sub [(0, _), (1, _), (7, _), (34, _), (35, _)] ⟨rfl, rfl, rfl, rfl, rfl, trivial⟩ ?_
      refine nm_thn ?_
      refine ws_region rfl ?_
      refine wlo 0 1 rfl rfl rfl (wo_run rfl rfl (run_add rfl rfl rfl (by first | omega | (simp only [lens]; omega))) ?_)
      refine wlm 1 2 rfl rfl rfl rfl rfl rfl rfl ?_
      refine wl_end rfl ?_
      refine nm_lp ?_
      intro ax_ hax_
      refine ⟨_, ?hq4m, ⟨i + 1, _, _, (ps1.set i ((ga ps1 i).set i (some Pol.i))), _, _, ((hle1.trans hle2).trans hle4), rfl, hax_.sub ⟨rfl, rfl, rfl, rfl, rfl, trivial⟩, S19.pick [1, 2] [_, _] (by decide) ⟨rfl, rfl, trivial⟩, ?hq4f0, ?hq4f1, ?hq4f2, ?hq4f3, ?hq4f4, ?hq4f5⟩⟩
      case hq4f0 => omega
      case hq4f1 => assumption
      case hq4f2 => (rw [List.length_set]; exact hx1)
      case hq4f3 => (intro q hq; rw [len_put _ _ _ _ (by omega)]; exact hxl1 q hq)
      case hq4f4 => (intro q hq c hc; rw [ga_put _ _ _ _ (by omega) (by omega)]; by_cases e : q = i; (subst e; rw [buN]; by_cases e2 : c = q; (rw [if_pos ⟨rfl, e2⟩, if_pos e2.symm]); (rw [if_neg (fun h => e2 h.2), if_neg (fun h => e2 h.symm)]; exact hpo c (by omega))); (rw [if_neg (fun h => e h.1)]; exact hps1 q (by omega) c hc))
      case hq4f5 => exact hTt4
      case hq4m => omega
   ·have hb36 := of_decide_eq_false hb36
    refine ws_exit rfl rfl ?_
    refine nm_sub [(1, _), (7, _)] ⟨rfl, rfl, trivial⟩ ?_
    refine nm_thn ?_
    refine ws_seqN Burau_n51 Burau_n52 rfl rfl rfl ?_
    refine ws_seqN Burau_n53 Burau_n54 rfl rfl rfl ?_
    refine ws_region rfl ?_
    refine wlm 0 1 rfl rfl rfl rfl rfl rfl rfl ?_
    refine wlo 1 2 rfl rfl rfl (wo_run rfl rfl (run_len rfl rfl rfl rfl rfl rfl Try.underlying36) ?_)
    refine wlm 2 3 rfl rfl rfl rfl rfl rfl rfl ?_
    refine wl_end rfl ?_
    refine nm_sub [(7, _), (68, _), (69, _), (70, _)] ⟨rfl, rfl, rfl, rfl, trivial⟩ ?_
    refine nm_thn ?_
    refine ws_blockN Burau_n55 4 rfl rfl rfl ?_
    refine ws_loopE (fun mx_ ax_ wx_ => ∃ (j : Nat) (B : Nat) (vs2 : List SlV) (xs2 : List (List (Option Nat))) (ps2 : List (List (Option Pol))) (vrj : Value) (M5 : Hp), M1.le M5 ∧ mx_ = l.length - j ∧ Env 171 [(7, vrj), (68, .slice lA l.length lc), (69, .int .i64 (l.length : Int)), (70, .int .i64 (j : Int))] ax_ ∧ SH wx_ M5 X [Rs.tab (cdMap 84) vs2 xs2, Rs.row (cdV 91) vrj vs2] ∧ j ≤ l.length ∧ B ≤ 12 * j + 1 ∧ vs2.length = m ∧ xs2.length = m ∧ (∀ q, q < m → (ga xs2 q).length = m) ∧ (∀ q, q < m → ∀ c, c < m → ga (ga ps2 q) c = some (buN l j q c)) ∧ WksA (fun _ => B) M5 xs2 ps2) rfl ?_ ?_
    ·intro ax_ hax_
     refine ⟨_, ⟨0, 1, _, _, ps, _, _, Hp.le_refl _, rfl, hax_.sub ⟨rfl, rfl, rfl, rfl, trivial⟩, S5.pick [0, 1] [_, _] (by decide) ⟨rfl, rfl, trivial⟩, ?hq5f0, ?hq5f1, ?hq5f2, ?hq5f3, ?hq5f4, ?hq5f5, ?hq5f6⟩⟩
     case hq5f0 => omega
     case hq5f1 => omega
     case hq5f2 => exact hv
     case hq5f3 => exact hx
     case hq5f4 => (obtain rfl : i = m := (by omega); exact hxl)
     case hq5f5 => (obtain rfl : i = m := (by omega); exact hps)
     case hq5f6 => exact hT0
    ·rintro m5 a3 w16 ⟨j, B, vs2, xs2, ps2, vrj, M5, hle5, rfl, he3, S20, hj, hB, hv2, hx2, hxl2, hps2, hT2⟩
     clear S5
     refine ws_in he3 (c := Burau_n56) rfl ?_
     clear he3 a3
     replace hl := hl.mono (Hp.un_mono hle5 S20.mx)
     replace hTt1 := hTt1.mono hle5
     replace hT0 := hT0.mono hle5
     have hlbj := hlb j
     have hT2l := hT2.1
     refine ws_seqN Burau_n57 Burau_n58 rfl rfl rfl ?_
     refine ws_region rfl ?_
     refine wlo 0 1 rfl rfl rfl (wo_run rfl rfl (run_lss rfl rfl rfl) ?_)
     refine wl_end rfl ?_
     refine nm_thn ?_
     refine ws_seqN Burau_n59 Burau_n60 rfl rfl rfl ?_
     refine ws_condN Burau_n61 Burau_n62 rfl rfl rfl rfl (fun hb71 => ?_) (fun hb71 => ?_)
     ·have hb71 := of_decide_eq_true hb71
      obtain ⟨ha1, ha2⟩ := hlbj (by omega)
      refine ws_skip rfl ?_
      refine nm_sub [(7, _), (68, _), (69, _), (70, _)] ⟨rfl, rfl, rfl, rfl, trivial⟩ ?_
      refine nm_thn ?_
      refine ws_seqN Burau_n63 Burau_n64 rfl rfl rfl ?_
      refine ws_blockN Burau_n65 5 rfl rfl rfl ?_
      refine ws_seqN Burau_n66 Burau_n67 rfl rfl rfl ?_
      refine ws_region rfl ?_
      refine wlo 0 1 rfl rfl rfl (wo_run rfl rfl (run_indexM (C := cdInt) j rfl rfl rfl sl36 (by first | rfl | omega) hl (by first | omega | (simp only [lens]; omega))) ?_)
      refine wlo 1 2 rfl rfl rfl (wo_run rfl rfl (run_load1 rfl rfl Try.underlying3 rfl (hl.cell S20.um (i := j) (by first | omega | (simp only [lens]; omega)) 0 rfl rfl)) ?_)
      refine wla 2 3 rfl rfl rfl rfl rfl rfl rfl ?_
      refine wl_end rfl ?_
      refine nm_sub [(7, _), (68, _), (69, _), (70, _), (11, _)] ⟨rfl, rfl, rfl, rfl, rfl, trivial⟩ ?_
      refine nm_thn ?_
      refine ws_seqN Burau_n68 Burau_n69 rfl rfl rfl ?_
      refine ws_region rfl ?_
      refine wlm 0 1 rfl rfl rfl rfl rfl rfl rfl ?_
      refine wlm 1 2 rfl rfl rfl rfl rfl rfl rfl ?_
      refine wlo 2 3 rfl rfl rfl (wo_run rfl rfl (run_neg rfl rfl (by first | omega | (simp only [lens]; omega))) ?_)
      refine wlo 3 4 rfl rfl rfl (wo_run rfl rfl (run_max rfl rfl rfl rfl rfl) ?_)
      refine wlo 4 5 rfl rfl rfl (wo_run rfl rfl (run_sub rfl rfl rfl (by first | omega | (simp only [lens]; omega))) ?_)
      refine wla 5 6 rfl rfl rfl rfl rfl rfl rfl ?_
      refine wl_end rfl ?_
      refine nm_sub [(7, _), (68, _), (69, _), (70, _), (11, _), (12, _)] ⟨rfl, rfl, rfl, rfl, rfl, rfl, trivial⟩ ?_
      refine nm_thn ?_
      refine ws_seqN Burau_n70 Burau_n71 rfl rfl rfl ?_
      refine ws_eq 12 (.int .i64 (ix (ga l j) : Int)) rfl (int_eq (by unfold ix; omega)) ?_
      have hix : (ix (ga l j)) + 1 < m := by unfold ix; omega
      refine ws_region rfl ?_
      refine wlo 0 1 rfl rfl rfl (wo_makeMap Int Int (Value.int .i64) (Value.int .i64) rfl rfl rfl S20 ?_)
      intro gm6 w17 S21; clear S20
      refine wlo 1 2 rfl rfl rfl (wo_mapUpdate (kc := Value.int .i64) (vc := Value.int .i64) (es := ([])) (k := 0) (e := 1) (i := 0) (H' := [_, _, _]) (.inr rfl) rfl S21 rfl rfl rfl rfl Try.underlying84 mk3 rfl ?_)
      intro w18 S22; clear S21
      refine wlo 2 3 rfl rfl rfl (wo_mapUpdate (kc := Value.int .i64) (vc := Value.int .i64) (es := (mp 0 1 ([]))) (k := 1) (e := (-1)) (i := 0) (H' := [_, _, _]) (.inr rfl) rfl S22 rfl rfl rfl rfl Try.underlying84 mk3 rfl ?_)
      intro w19 S23; clear S22
      refine wlm 3 4 rfl rfl rfl rfl rfl rfl rfl ?_
      refine wlo 4 5 rfl rfl rfl (wo_makeMap Int Int (Value.int .i64) (Value.int .i64) rfl rfl rfl S23 ?_)
      intro gm7 w20 S24; clear S23
      refine wlo 5 6 rfl rfl rfl (wo_mapUpdate (kc := Value.int .i64) (vc := Value.int .i64) (es := ([])) (k := 1) (e := 1) (i := 0) (H' := [_, _, _, _]) (.inr rfl) rfl S24 rfl rfl rfl rfl Try.underlying84 mk3 rfl ?_)
      intro w21 S25; clear S24
      refine wlm 6 7 rfl rfl rfl rfl rfl rfl rfl ?_
      obtain ⟨M6, hle6, S26, hm3⟩ := S25.pubmap (i := 1) (H' := [_, _, _, _]) rfl rfl; clear S25
      replace hl := hl.mono (Hp.un_mono hle6 S26.mx)
      replace hTt1 := hTt1.mono hle6
      replace hT0 := hT0.mono hle6
      replace hT2 := hT2.mono hle6
      have hw5 : Wk M6 gm6 (1) (mk (mp 1 (-1) (mp 0 1 ([])))) := ⟨_, hm3, (mp_ents (mp_ents (Ents.nil_ 1) (by omega) (wr_id (by omega))) (by omega) (wr_id (by omega))), rfl⟩
      have hw6 : Wk M6 gm6 1 (mono 0 1 + mono 1 (-1)) := by rw [show (mono 0 1 + mono 1 (-1)) = (mk (mp 1 (-1) (mp 0 1 ([])))) from (by show mk [_, _] = _; first | rfl | (rw [Pol.add_comm]; rfl))]; exact hw5
      obtain ⟨M7, hle7, S27, hm4⟩ := S26.pubmap (i := 0) (H' := [_, _, _, _]) rfl rfl; clear S26
      replace hl := hl.mono (Hp.un_mono hle7 S27.mx)
      replace hTt1 := hTt1.mono hle7
      replace hT0 := hT0.mono hle7
      replace hT2 := hT2.mono hle7
      replace hm3 := hm3.mono hle7
      replace hw5 := hw5.mono hle7
      replace hw6 := hw6.mono hle7
      have hw7 : Wk M7 gm7 (1) (mk (mp 1 1 ([]))) := ⟨_, hm4, (mp_ents (Ents.nil_ 1) (by omega) (wr_id (by omega))), rfl⟩
      have hw8 : Wk M7 gm7 1 (mono 1 1) := by rw [show (mono 1 1) = (mk (mp 1 1 ([]))) from rfl]; exact hw7
      refine wlo 7 8 rfl rfl rfl (wo_run rfl rfl (run_buildA (l := [_, _]) (pl := [(0, 1), (1, 1)]) rfl rfl Try.underlying92 zr92 sz84 rfl rfl rfl) ?_)
      refine wlo 8 9 rfl rfl rfl (wo_makeMap Int Int (Value.int .i64) (Value.int .i64) rfl rfl rfl S27 ?_)
      intro gm8 w22 S28; clear S27
      refine wlo 9 10 rfl rfl rfl (wo_mapUpdate (kc := Value.int .i64) (vc := Value.int .i64) (es := ([])) (k := 0) (e := 1) (i := 0) (H' := [_, _, _, _, _]) (.inr rfl) rfl S28 rfl rfl rfl rfl Try.underlying84 mk3 rfl ?_)
      intro w23 S29; clear S28
      refine wlm 10 11 rfl rfl rfl rfl rfl rfl rfl ?_
      refine wlo 11 12 rfl rfl rfl (wo_makeMap Int Int (Value.int .i64) (Value.int .i64) rfl rfl rfl S29 ?_)
      intro gm9 w24 S30; clear S29
      obtain ⟨M8, hle8, S31, hm5⟩ := S30.pubmap (i := 1) (H' := [_, _, _, _, _, _]) rfl rfl; clear S30
      replace hl := hl.mono (Hp.un_mono hle8 S31.mx)
      replace hTt1 := hTt1.mono hle8
      replace hT0 := hT0.mono hle8
      replace hT2 := hT2.mono hle8
      replace hm3 := hm3.mono hle8
      replace hw5 := hw5.mono hle8
      replace hw6 := hw6.mono hle8
      replace hm4 := hm4.mono hle8
      replace hw7 := hw7.mono hle8
      replace hw8 := hw8.mono hle8
      have hw9 : Wk M8 gm8 (1) (mk (mp 0 1 ([]))) := ⟨_, hm5, (mp_ents (Ents.nil_ 1) (by omega) (wr_id (by omega))), rfl⟩
      have hw10 : Wk M8 gm8 1 (mono 0 1) := by rw [show (mono 0 1) = (mk (mp 0 1 ([]))) from rfl]; exact hw9
      obtain ⟨M9, hle9, S32, hm6⟩ := S31.pubmap (i := 0) (H' := [_, _, _, _, _, _]) rfl rfl; clear S31
      replace hl := hl.mono (Hp.un_mono hle9 S32.mx)
      replace hTt1 := hTt1.mono hle9
      replace hT0 := hT0.mono hle9
      replace hT2 := hT2.mono hle9
      replace hm3 := hm3.mono hle9
      replace hw5 := hw5.mono hle9
      replace hw6 := hw6.mono hle9
      replace hm4 := hm4.mono hle9
      replace hw7 := hw7.mono hle9
      replace hw8 := hw8.mono hle9
      replace hm5 := hm5.mono hle9
      replace hw9 := hw9.mono hle9
      replace hw10 := hw10.mono hle9
      have hw11 : Wk M9 gm9 (1) (mk ([])) := ⟨_, hm6, (Ents.nil_ 1), rfl⟩
      have hw12 : Wk M9 gm9 1 Pol.o := by rw [show Pol.o = (mk ([])) from rfl]; exact hw11
      refine wlo 12 13 rfl rfl rfl (wo_run rfl rfl (run_buildA (l := [_, _]) (pl := [(0, 1), (1, 1)]) rfl rfl Try.underlying92 zr92 sz84 rfl rfl rfl) ?_)
      refine wlo 13 14 rfl rfl rfl (wo_run rfl rfl (run_buildA (l := [_, _, _, _]) (pl := [(0, 2), (2, 2)]) rfl rfl Try.underlying93 zr93 sz92 rfl rfl rfl) ?_)
      refine wlo 14 15 rfl rfl rfl (wo_alloc (l := [_, _, _, _]) rfl rfl rfl zr93 rfl S32 ?_)
      intro gb2 w25 S33; clear S32
      refine wlo 15 16 rfl rfl rfl (wo_storeB (i := 0) (us := [_, _, _, _]) (l' := [_, _, _, _]) (H' := [_, _, _, _, _, _, _]) rfl rfl S33 rfl rfl rfl rfl sz93 rfl rfl rfl rfl ?_)
      intro w26 S34; clear S33
      refine wl_end rfl ?_
      refine nm_sub [(7, _), (68, _), (69, _), (70, _), (11, _), (12, _), (13, _)] ⟨rfl, rfl, rfl, rfl, rfl, rfl, rfl, trivial⟩ ?_
      refine nm_thn ?_
      refine ws_seqN Burau_n72 Burau_n73 rfl rfl rfl ?_
      refine ws_seqN Burau_n74 Burau_n75 rfl rfl rfl ?_
      refine ws_region rfl ?_
      refine wlm 0 1 rfl rfl rfl rfl rfl rfl rfl ?_
      refine wlo 1 2 rfl rfl rfl (wo_run rfl rfl (run_lss rfl rfl rfl) ?_)
      refine wl_end rfl ?_
      refine nm_sub [(7, _), (68, _), (69, _), (70, _), (12, _), (13, _), (90, _)] ⟨rfl, rfl, rfl, rfl, rfl, rfl, rfl, trivial⟩ ?_
      refine nm_thn ?_
      refine ws_condN Burau_n76 Burau_n77 rfl rfl rfl rfl (fun hb90 => ?_) (fun hb90 => ?_)
      ·have hb90 := of_decide_eq_true hb90
       refine ws_region rfl ?_
       refine wlo 0 1 rfl rfl rfl (wo_makeMap Int Int (Value.int .i64) (Value.int .i64) rfl rfl rfl S34 ?_)
       intro gm10 w27 S35; clear S34
       refine wlo 1 2 rfl rfl rfl (wo_makeMap Int Int (Value.int .i64) (Value.int .i64) rfl rfl rfl S35 ?_)
       intro gm11 w28 S36; clear S35
       refine wlo 2 3 rfl rfl rfl (wo_mapUpdate (kc := Value.int .i64) (vc := Value.int .i64) (es := ([])) (k := 0) (e := 1) (i := 0) (H' := [_, _, _, _, _, _, _, _, _]) (.inr rfl) rfl S36 rfl rfl rfl rfl Try.underlying84 mk3 rfl ?_)
       intro w29 S37; clear S36
       refine wlm 3 4 rfl rfl rfl rfl rfl rfl rfl ?_
       obtain ⟨M10, hle10, S38, hm7⟩ := S37.pubmap (i := 1) (H' := [_, _, _, _, _, _, _, _, _]) rfl rfl; clear S37
       replace hl := hl.mono (Hp.un_mono hle10 S38.mx)
       replace hTt1 := hTt1.mono hle10
       replace hT0 := hT0.mono hle10
       replace hT2 := hT2.mono hle10
       replace hm3 := hm3.mono hle10
       replace hw5 := hw5.mono hle10
       replace hw6 := hw6.mono hle10
       replace hm4 := hm4.mono hle10
       replace hw7 := hw7.mono hle10
       replace hw8 := hw8.mono hle10
       replace hm5 := hm5.mono hle10
       replace hw9 := hw9.mono hle10
       replace hw10 := hw10.mono hle10
       replace hm6 := hm6.mono hle10
       replace hw11 := hw11.mono hle10
       replace hw12 := hw12.mono hle10
       have hw13 : Wk M10 gm10 (1) (mk ([])) := ⟨_, hm7, (Ents.nil_ 1), rfl⟩
       have hw14 : Wk M10 gm10 1 Pol.o := by rw [show Pol.o = (mk ([])) from rfl]; exact hw13
       obtain ⟨M11, hle11, S39, hm8⟩ := S38.pubmap (i := 0) (H' := [_, _, _, _, _, _, _, _, _]) rfl rfl; clear S38
       replace hl := hl.mono (Hp.un_mono hle11 S39.mx)
       replace hTt1 := hTt1.mono hle11
       replace hT0 := hT0.mono hle11
       replace hT2 := hT2.mono hle11
       replace hm3 := hm3.mono hle11
       replace hw5 := hw5.mono hle11
       replace hw6 := hw6.mono hle11
       replace hm4 := hm4.mono hle11
       replace hw7 := hw7.mono hle11
       replace hw8 := hw8.mono hle11
       replace hm5 := hm5.mono hle11
       replace hw9 := hw9.mono hle11
       replace hw10 := hw10.mono hle11
       replace hm6 := hm6.mono hle11
       replace hw11 := hw11.mono hle11
       replace hw12 := hw12.mono hle11
       replace hm7 := hm7.mono hle11
       replace hw13 := hw13.mono hle11
       replace hw14 := hw14.mono hle11
       have hw15 : Wk M11 gm11 (1) (mk (mp 0 1 ([]))) := ⟨_, hm8, (mp_ents (Ents.nil_ 1) (by omega) (wr_id (by omega))), rfl⟩
       have hw16 : Wk M11 gm11 1 (mono 0 1) := by rw [show (mono 0 1) = (mk (mp 0 1 ([]))) from rfl]; exact hw15
       refine wlo 4 5 rfl rfl rfl (wo_run rfl rfl (run_buildA (l := [_, _]) (pl := [(0, 1), (1, 1)]) rfl rfl Try.underlying92 zr92 sz84 rfl rfl rfl) ?_)
       refine wlo 5 6 rfl rfl rfl (wo_makeMap Int Int (Value.int .i64) (Value.int .i64) rfl rfl rfl S39 ?_)
       intro gm12 w30 S40; clear S39
       refine wlo 6 7 rfl rfl rfl (wo_mapUpdate (kc := Value.int .i64) (vc := Value.int .i64) (es := ([])) (k := (-1)) (e := 1) (i := 0) (H' := [_, _, _, _, _, _, _, _, _, _]) (.inr rfl) rfl S40 rfl rfl rfl rfl Try.underlying84 mk3 rfl ?_)
       intro w31 S41; clear S40
       refine wlm 7 8 rfl rfl rfl rfl rfl rfl rfl ?_
       refine wlo 8 9 rfl rfl rfl (wo_makeMap Int Int (Value.int .i64) (Value.int .i64) rfl rfl rfl S41 ?_)
       intro gm13 w32 S42; clear S41
       refine wlo 9 10 rfl rfl rfl (wo_mapUpdate (kc := Value.int .i64) (vc := Value.int .i64) (es := ([])) (k := 0) (e := 1) (i := 0) (H' := [_, _, _, _, _, _, _, _, _, _, _]) (.inr rfl) rfl S42 rfl rfl rfl rfl Try.underlying84 mk3 rfl ?_)
       intro w33 S43; clear S42
       refine wlo 10 11 rfl rfl rfl (wo_mapUpdate (kc := Value.int .i64) (vc := Value.int .i64) (es := (mp 0 1 ([]))) (k := (-1)) (e := (-1)) (i := 0) (H' := [_, _, _, _, _, _, _, _, _, _, _]) (.inr rfl) rfl S43 rfl rfl rfl rfl Try.underlying84 mk3 rfl ?_)
       intro w34 S44; clear S43
       refine wlm 11 12 rfl rfl rfl rfl rfl rfl rfl ?_
       obtain ⟨M12, hle12, S45, hm9⟩ := S44.pubmap (i := 1) (H' := [_, _, _, _, _, _, _, _, _, _, _]) rfl rfl; clear S44
       replace hl := hl.mono (Hp.un_mono hle12 S45.mx)
       replace hTt1 := hTt1.mono hle12
       replace hT0 := hT0.mono hle12
       replace hT2 := hT2.mono hle12
       replace hm3 := hm3.mono hle12
       replace hw5 := hw5.mono hle12
       replace hw6 := hw6.mono hle12
       replace hm4 := hm4.mono hle12
       replace hw7 := hw7.mono hle12
       replace hw8 := hw8.mono hle12
       replace hm5 := hm5.mono hle12
       replace hw9 := hw9.mono hle12
       replace hw10 := hw10.mono hle12
       replace hm6 := hm6.mono hle12
       replace hw11 := hw11.mono hle12
       replace hw12 := hw12.mono hle12
       replace hm7 := hm7.mono hle12
       replace hw13 := hw13.mono hle12
       replace hw14 := hw14.mono hle12
       replace hm8 := hm8.mono hle12
       replace hw15 := hw15.mono hle12
       replace hw16 := hw16.mono hle12
       have hw17 : Wk M12 gm12 (1) (mk (mp (-1) 1 ([]))) := ⟨_, hm9, (mp_ents (Ents.nil_ 1) (by omega) (wr_id (by omega))), rfl⟩
       have hw18 : Wk M12 gm12 1 (mono (-1) 1) := by rw [show (mono (-1) 1) = (mk (mp (-1) 1 ([]))) from rfl]; exact hw17
       obtain ⟨M13, hle13, S46, hm10⟩ := S45.pubmap (i := 0) (H' := [_, _, _, _, _, _, _, _, _, _, _]) rfl rfl; clear S45
       replace hl := hl.mono (Hp.un_mono hle13 S46.mx)
       replace hTt1 := hTt1.mono hle13
       replace hT0 := hT0.mono hle13
       replace hT2 := hT2.mono hle13
       replace hm3 := hm3.mono hle13
       replace hw5 := hw5.mono hle13
       replace hw6 := hw6.mono hle13
       replace hm4 := hm4.mono hle13
       replace hw7 := hw7.mono hle13
       replace hw8 := hw8.mono hle13
       replace hm5 := hm5.mono hle13
       replace hw9 := hw9.mono hle13
       replace hw10 := hw10.mono hle13
       replace hm6 := hm6.mono hle13
       replace hw11 := hw11.mono hle13
       replace hw12 := hw12.mono hle13
       replace hm7 := hm7.mono hle13
       replace hw13 := hw13.mono hle13
       replace hw14 := hw14.mono hle13
       replace hm8 := hm8.mono hle13
       replace hw15 := hw15.mono hle13
       replace hw16 := hw16.mono hle13
       replace hm9 := hm9.mono hle13
       replace hw17 := hw17.mono hle13
       replace hw18 := hw18.mono hle13
       have hw19 : Wk M13 gm13 (1) (mk (mp (-1) (-1) (mp 0 1 ([])))) := ⟨_, hm10, (mp_ents (mp_ents (Ents.nil_ 1) (by omega) (wr_id (by omega))) (by omega) (wr_id (by omega))), rfl⟩
       have hw20 : Wk M13 gm13 1 (mono 0 1 + mono (-1) (-1)) := by rw [show (mono 0 1 + mono (-1) (-1)) = (mk (mp (-1) (-1) (mp 0 1 ([])))) from (by show mk [_, _] = _; first | rfl | (rw [Pol.add_comm]; rfl))]; exact hw19
       refine wlo 12 13 rfl rfl rfl (wo_run rfl rfl (run_buildA (l := [_, _]) (pl := [(0, 1), (1, 1)]) rfl rfl Try.underlying92 zr92 sz84 rfl rfl rfl) ?_)
       refine wlo 13 14 rfl rfl rfl (wo_run rfl rfl (run_buildA (l := [_, _, _, _]) (pl := [(0, 2), (2, 2)]) rfl rfl Try.underlying93 zr93 sz92 rfl rfl rfl) ?_)
       refine wlo 14 15 rfl rfl rfl (wo_storeB (i := 4) (us := [_, _, _, _]) (l' := [_, _, _, _]) (H' := [_, _, _, _, _, _, _, _, _, _, _]) rfl rfl S46 rfl rfl rfl rfl sz93 rfl rfl rfl rfl ?_)
       intro w35 S47; clear S46
       refine wl_end rfl ?_
       refine nm_sub [(7, _), (68, _), (69, _), (70, _), (12, _), (13, _)] ⟨rfl, rfl, rfl, rfl, rfl, rfl, trivial⟩ ?_
       refine nm_thn ?_
       refine ws_seqN Burau_n78 Burau_n79 rfl rfl rfl ?_
       refine ws_region rfl ?_
       refine wlm 0 1 rfl rfl rfl rfl rfl rfl rfl ?_
       refine wlo 1 2 rfl rfl rfl (wo_run rfl rfl (run_lenR (C := (cdV 91)) (i := 10) rfl rfl rfl rfl rfl rfl sl90 S47 rfl) ?_)
       refine wlm 2 3 rfl rfl rfl rfl rfl rfl rfl ?_
       refine wl_end rfl ?_
       refine nm_thn ?_
       refine ws_blockN Burau_n80 6 rfl rfl rfl ?_
       refine ws_loopE (fun mx_ ax_ wx_ => ∃ (r : Nat) (B2 : Nat) (vs3 : List SlV) (xs3 : List (List (Option Nat))) (ps3 : List (List (Option Pol))) (vrr : Value) (M14 : Hp), M13.le M14 ∧ mx_ = m - r ∧ Env 171 [(7, vrr), (68, .slice lA l.length lc), (69, .int .i64 (l.length : Int)), (70, .int .i64 (j : Int)), (12, .int .i64 (ix (ga l j) : Int)), (13, .pointer (some ⟨gb2, 0, none⟩)), (101, vrr), (102, .int .i64 (vs2.length : Int)), (103, .int .i64 (r : Int))] ax_ ∧ SH wx_ M14 X [Rs.box gb2 93 [.map (some gm10), .map (some gm11), .map (some gm12), .map (some gm13)], Rs.tab (cdMap 84) vs3 xs3, Rs.row (cdV 91) vrr vs3] ∧ r ≤ m ∧ B2 ≤ 12 * j + 2 * r + 1 ∧ vs3.length = m ∧ xs3.length = m ∧ (∀ q, q < m → (ga xs3 q).length = m) ∧ (∀ q, q < m → ∀ c, c < m → ga (ga ps3 q) c = some (if q < r then buN l (j + 1) q c else buN l j q c)) ∧ WksA (fun _ => B2) M14 xs3 ps3) rfl ?_ ?_
       ·intro ax_ hax_
        refine ⟨_, ⟨0, B, _, _, ps2, _, _, Hp.le_refl _, rfl, hax_.sub ⟨rfl, rfl, rfl, rfl, rfl, rfl, rfl, rfl, rfl, trivial⟩, S47.pick [4, 9, 10] [_, _, _] (by decide) ⟨rfl, rfl, rfl, trivial⟩, ?hq6f0, ?hq6f1, ?hq6f2, ?hq6f3, ?hq6f4, ?hq6f5, ?hq6f6⟩⟩
        case hq6f0 => omega
        case hq6f1 => omega
        case hq6f2 => exact hv2
        case hq6f3 => exact hx2
        case hq6f4 => exact hxl2
        case hq6f5 => (intro q hq c hc; rw [hps2 q hq c hc, if_neg (by omega)])
        case hq6f6 => exact hT2
       ·rintro m14 a4 w36 ⟨r, B2, vs3, xs3, ps3, vrr, M14, hle14, rfl, he4, S48, hr, hB2, hv3, hx3, hxl3, hps3, hT3⟩
        clear S47
        refine ws_in he4 (c := Burau_n81) rfl ?_
        clear he4 a4
        replace hl := hl.mono (Hp.un_mono hle14 S48.mx)
        replace hTt1 := hTt1.mono hle14
        replace hT0 := hT0.mono hle14
        replace hT2 := hT2.mono hle14
        replace hm3 := hm3.mono hle14
        replace hw5 := hw5.mono hle14
        replace hw6 := hw6.mono hle14
        replace hm4 := hm4.mono hle14
        replace hw7 := hw7.mono hle14
        replace hw8 := hw8.mono hle14
        replace hm5 := hm5.mono hle14
        replace hw9 := hw9.mono hle14
        replace hw10 := hw10.mono hle14
        replace hm6 := hm6.mono hle14
        replace hw11 := hw11.mono hle14
        replace hw12 := hw12.mono hle14
        replace hm7 := hm7.mono hle14
        replace hw13 := hw13.mono hle14
        replace hw14 := hw14.mono hle14
        replace hm8 := hm8.mono hle14
        replace hw15 := hw15.mono hle14
        replace hw16 := hw16.mono hle14
        replace hm9 := hm9.mono hle14
        replace hw17 := hw17.mono hle14
        replace hw18 := hw18.mono hle14
        replace hm10 := hm10.mono hle14
        replace hw19 := hw19.mono hle14
        replace hw20 := hw20.mono hle14
        have hT3l := hT3.1
        have hxl3r := hxl3 r
        have hT3r := fun h => (hT3.2 r h).1
        have hpsr := fun h => hps3 r h
        refine ws_seqN Burau_n82 Burau_n83 rfl rfl rfl ?_
        refine ws_region rfl ?_
        refine wlo 0 1 rfl rfl rfl (wo_run rfl rfl (run_lss rfl rfl rfl) ?_)
        refine wl_end rfl ?_
        refine nm_thn ?_
        refine ws_seqN Burau_n84 Burau_n85 rfl rfl rfl ?_
        refine ws_condN Burau_n86 Burau_n87 rfl rfl rfl rfl (fun hb104 => ?_) (fun hb104 => ?_)
        ·have hb104 := of_decide_eq_true hb104
         refine ws_skip rfl ?_
         refine nm_sub [(7, _), (68, _), (69, _), (70, _), (12, _), (13, _), (101, _), (102, _), (103, _)] ⟨rfl, rfl, rfl, rfl, rfl, rfl, rfl, rfl, rfl, trivial⟩ ?_
         refine nm_thn ?_
         refine ws_seqN Burau_n88 Burau_n89 rfl rfl rfl ?_
         refine ws_blockN Burau_n90 7 rfl rfl rfl ?_
         refine ws_seqN Burau_n91 Burau_n92 rfl rfl rfl ?_
         refine ws_region rfl ?_
         refine wlo 0 1 rfl rfl rfl (wo_run rfl rfl (run_indexR (C := (cdV 91)) (i := 2) r rfl rfl rfl sl90 S48 rfl (by first | rfl | omega) (by first | omega | (simp only [lens]; omega))) ?_)
         refine wlo 1 2 rfl rfl rfl (wo_run rfl rfl (run_load1 rfl rfl Try.underlying91 rfl (S48.rowc (i := 2) (e := r) (j := 0) rfl (by first | omega | (simp only [lens]; omega)) rfl rfl)) ?_)
         refine wla 2 3 rfl rfl rfl rfl rfl rfl rfl ?_
         refine wl_end rfl ?_
         refine nm_sub [(7, _), (68, _), (69, _), (70, _), (12, _), (13, _), (101, _), (102, _), (103, _), (15, _)] ⟨rfl, rfl, rfl, rfl, rfl, rfl, rfl, rfl, rfl, rfl, trivial⟩ ?_
         refine nm_thn ?_
         refine ws_seqN Burau_n93 Burau_n94 rfl rfl rfl ?_
         refine ws_draw rfl (by kernel_rfl) S48 11 rfl ?_
         clear S48
         refine wa_takeP (i := 0) (d := 107) 10 rfl (by kernel_rfl) (by kernel_rfl) (by kernel_rfl) rfl rfl rfl (fun w37 => run_move rfl rfl) ?_
         refine wa_takeP (i := 1) (d := 108) 9 rfl (by kernel_rfl) (by kernel_rfl) (by kernel_rfl) rfl rfl rfl (fun w38 => run_move rfl rfl) ?_
         refine wa_take (i := 2) (d := 109) 8 rfl (by kernel_rfl) (by kernel_rfl) (by kernel_rfl) rfl rfl rfl (fun M17 N3 w39 hle17 S51 => .inl (run_indexT (C := (cdMap 84)) (vs := vs3) (xss := xs3) (i := 1) r (ix (ga l j)) rfl rfl rfl rfl sl91 S51.suf rfl (by first | omega | (simp only [lens]; omega) | (rw [ga_set _ _ _ _ (by first | omega | (simp only [List.length_set]; omega)), if_pos rfl]; simp only [List.length_set]; omega)) (by first | rfl | omega) (by first | omega | (simp only [lens]; omega) | (rw [ga_set _ _ _ _ (by first | omega | (simp only [List.length_set]; omega)), if_pos rfl]; simp only [List.length_set]; omega)))) ?_
         have hk1 := hT3.2 r (by first | omega | (simp only [lens]; omega) | (rw [ga_set _ _ _ _ (by first | omega | (simp only [List.length_set]; omega)), if_pos rfl]; simp only [List.length_set]; omega))
         obtain ⟨gw1, eg1, hw21⟩ := hk1.get (i := ix (ga l j)) (p := buN l j r (ix (ga l j))) (by first | omega | (simp only [lens]; omega)) (by rw [hpsr (by omega) _ (by omega), if_neg (by omega)])
         replace hw21 : Wk _ gw1 B2 (buN l j r (ix (ga l j))) := hw21
         refine wa_take (i := 3) (d := 110) 7 rfl (by kernel_rfl) (by kernel_rfl) (by kernel_rfl) rfl rfl rfl (fun M18 N4 w40 hle18 S52 => .inl (run_load1 rfl rfl Try.underlying84 rfl (S52.suf.tabc (i := 1) (k := r) (e := ix (ga l j)) (j := 0) rfl (by first | omega | (simp only [lens]; omega) | (rw [ga_set _ _ _ _ (by first | omega | (simp only [List.length_set]; omega)), if_pos rfl]; simp only [List.length_set]; omega)) (by first | omega | (simp only [lens]; omega) | (rw [ga_set _ _ _ _ (by first | omega | (simp only [List.length_set]; omega)), if_pos rfl]; simp only [List.length_set]; omega)) rfl (congrArg (fun n => some (Value.map n)) eg1)))) ?_
         refine wa_takeP (i := 4) (d := 111) 6 rfl (by kernel_rfl) (by kernel_rfl) (by kernel_rfl) rfl rfl rfl (fun w41 => run_move rfl rfl) ?_
         refine wa_takeP (i := 5) (d := 112) 5 rfl (by kernel_rfl) (by kernel_rfl) (by kernel_rfl) rfl rfl rfl (fun w42 => run_move rfl rfl) ?_
         refine wa_takeP (i := 6) (d := 113) 4 rfl (by kernel_rfl) (by kernel_rfl) (by kernel_rfl) rfl rfl rfl (fun w43 => run_add rfl rfl rfl (by first | omega | (simp only [lens]; omega))) ?_
         refine wa_take (i := 7) (d := 114) 3 rfl (by kernel_rfl) (by kernel_rfl) (by kernel_rfl) rfl rfl rfl (fun M22 N8 w44 hle22 S56 => .inl (run_indexT (C := (cdMap 84)) (vs := vs3) (xss := xs3) (i := 1) r (ix (ga l j) + 1) rfl rfl rfl rfl sl91 S56.suf rfl (by first | omega | (simp only [lens]; omega) | (rw [ga_set _ _ _ _ (by first | omega | (simp only [List.length_set]; omega)), if_pos rfl]; simp only [List.length_set]; omega)) (by first | rfl | omega) (by first | omega | (simp only [lens]; omega) | (rw [ga_set _ _ _ _ (by first | omega | (simp only [List.length_set]; omega)), if_pos rfl]; simp only [List.length_set]; omega)))) ?_
         have hk2 := hT3.2 r (by first | omega | (simp only [lens]; omega) | (rw [ga_set _ _ _ _ (by first | omega | (simp only [List.length_set]; omega)), if_pos rfl]; simp only [List.length_set]; omega))
         obtain ⟨gw2, eg2, hw22⟩ := hk2.get (i := ix (ga l j) + 1) (p := buN l j r ((ix (ga l j)) + 1)) (by first | omega | (simp only [lens]; omega)) (by rw [hpsr (by omega) _ (by omega), if_neg (by omega)])
         replace hw22 : Wk _ gw2 B2 (buN l j r ((ix (ga l j)) + 1)) := hw22
         refine wa_take (i := 8) (d := 115) 2 rfl (by kernel_rfl) (by kernel_rfl) (by kernel_rfl) rfl rfl rfl (fun M23 N9 w45 hle23 S57 => .inl (run_load1 rfl rfl Try.underlying84 rfl (S57.suf.tabc (i := 1) (k := r) (e := ix (ga l j) + 1) (j := 0) rfl (by first | omega | (simp only [lens]; omega) | (rw [ga_set _ _ _ _ (by first | omega | (simp only [List.length_set]; omega)), if_pos rfl]; simp only [List.length_set]; omega)) (by first | omega | (simp only [lens]; omega) | (rw [ga_set _ _ _ _ (by first | omega | (simp only [List.length_set]; omega)), if_pos rfl]; simp only [List.length_set]; omega)) rfl (congrArg (fun n => some (Value.map n)) eg2)))) ?_
         refine wa_takeP (i := 9) (d := 16) 1 rfl (by kernel_rfl) (by kernel_rfl) (by kernel_rfl) rfl rfl rfl (fun w46 => run_assign rfl rfl) ?_
         refine wa_takeP (i := 10) (d := 17) 0 rfl (by kernel_rfl) (by kernel_rfl) (by kernel_rfl) rfl rfl rfl (fun w47 => run_assign rfl rfl) ?_
         refine wa_end (by kernel_rfl) (fun w48 S60 => ?_)
         refine nm_sub [(7, _), (68, _), (69, _), (70, _), (12, _), (13, _), (101, _), (102, _), (103, _), (15, _), (16, _), (17, _)] ⟨rfl, rfl, rfl, rfl, rfl, rfl, rfl, rfl, rfl, rfl, rfl, rfl, trivial⟩ ?_
         refine nm_thn ?_
         refine ws_seqN Burau_n95 Burau_n96 rfl rfl rfl ?_
         have hTt5 := hT3.up (bf' := fun _ => B2 + 2) (fun _ => by omega)
         refine ws_draw rfl (by kernel_rfl) S60 15 rfl ?_
         clear S60
         refine wa_takeP (i := 0) (d := 116) 14 rfl (by kernel_rfl) (by kernel_rfl) (by kernel_rfl) rfl rfl rfl (fun w49 => run_move rfl rfl) ?_
         refine wa_takeP (i := 1) (d := 117) 13 rfl (by kernel_rfl) (by kernel_rfl) (by kernel_rfl) rfl rfl rfl (fun w50 => run_move rfl rfl) ?_
         refine wa_takeP (i := 2) (d := 118) 12 rfl (by kernel_rfl) (by kernel_rfl) (by kernel_rfl) rfl rfl rfl (fun w51 => run_move rfl rfl) ?_
         refine wa_take (i := 3) (d := 119) 11 rfl (by kernel_rfl) (by kernel_rfl) (by kernel_rfl) rfl rfl rfl (fun M29 N15 w52 hle29 S64 => .inl (run_indexP (e := 0) (k := 2) rfl rfl rfl Try.underlying93 sz92 (by first | rfl | omega) (by first | omega | (simp only [lens]; omega)))) ?_
         refine wa_take (i := 4) (d := 120) 10 rfl (by kernel_rfl) (by kernel_rfl) (by kernel_rfl) rfl rfl rfl (fun M30 N16 w53 hle30 S65 => .inl (run_indexP (e := 0) (k := 1) rfl rfl rfl Try.underlying92 sz84 (by first | rfl | omega) (by first | omega | (simp only [lens]; omega)))) ?_
         refine wa_take (i := 5) (d := 121) 9 rfl (by kernel_rfl) (by kernel_rfl) (by kernel_rfl) rfl rfl rfl (fun M31 N17 w54 hle31 S66 => .inl (run_load1 rfl rfl Try.underlying84 rfl (S66.suf.boxc (i := 0) rfl rfl))) ?_
         refine wa_takeP (i := 7) (d := 123) 8 rfl (by kernel_rfl) (by kernel_rfl) (by kernel_rfl) rfl rfl rfl (fun w56 => run_move rfl rfl) ?_
         refine wa_take (i := 8) (d := 124) 7 rfl (by kernel_rfl) (by kernel_rfl) (by kernel_rfl) rfl rfl rfl (fun M35 N21 w58 hle35 S70 => .inl (run_indexP (e := 1) (k := 2) rfl rfl rfl Try.underlying93 sz92 (by first | rfl | omega) (by first | omega | (simp only [lens]; omega)))) ?_
         refine wa_take (i := 9) (d := 125) 6 rfl (by kernel_rfl) (by kernel_rfl) (by kernel_rfl) rfl rfl rfl (fun M37 N23 w60 hle37 S72 => .inl (run_indexP (e := 0) (k := 1) rfl rfl rfl Try.underlying92 sz84 (by first | rfl | omega) (by first | omega | (simp only [lens]; omega)))) ?_
         refine wa_take (i := 10) (d := 126) 5 rfl (by kernel_rfl) (by kernel_rfl) (by kernel_rfl) rfl rfl rfl (fun M39 N25 w62 hle39 S74 => .inl (run_load1 rfl rfl Try.underlying84 rfl (S74.suf.boxc (i := 0) rfl rfl))) ?_
         refine wa_only (i := 6) 4 rfl (by kernel_rfl) rfl rfl (fun w64 S76 => ?_)
         refine (wo_ct rfl rfl rfl rfl rfl rfl rfl cf57 S76 (TimesW_t hw21 hw14 (by omega) S76.lend) ?_)
         intro vw65 w65 M41 hle41 S77 hRw65; clear S76
         replace hl := hl.mono (Hp.un_mono hle41 S77.mx)
         replace hTt1 := hTt1.mono hle41
         replace hT0 := hT0.mono hle41
         replace hT2 := hT2.mono hle41
         replace hm3 := hm3.mono hle41
         replace hw5 := hw5.mono hle41
         replace hw6 := hw6.mono hle41
         replace hm4 := hm4.mono hle41
         replace hw7 := hw7.mono hle41
         replace hw8 := hw8.mono hle41
         replace hm5 := hm5.mono hle41
         replace hw9 := hw9.mono hle41
         replace hw10 := hw10.mono hle41
         replace hm6 := hm6.mono hle41
         replace hw11 := hw11.mono hle41
         replace hw12 := hw12.mono hle41
         replace hm7 := hm7.mono hle41
         replace hw13 := hw13.mono hle41
         replace hw14 := hw14.mono hle41
         replace hm8 := hm8.mono hle41
         replace hw15 := hw15.mono hle41
         replace hw16 := hw16.mono hle41
         replace hm9 := hm9.mono hle41
         replace hw17 := hw17.mono hle41
         replace hw18 := hw18.mono hle41
         replace hm10 := hm10.mono hle41
         replace hw19 := hw19.mono hle41
         replace hw20 := hw20.mono hle41
         replace hT3 := hT3.mono hle41
         replace hw21 := hw21.mono hle41
         replace hw22 := hw22.mono hle41
         replace hTt5 := hTt5.mono hle41
         obtain ⟨gw3, rfl, hw23⟩ := hRw65
         refine LeftW.grow [] (hle41) S77 ?_; clear S77
         change WA _ _ _ _ _ _ _ _ _ _ _ _ [_, _, _]
         refine wa_base ?_
         refine wa_only (i := 11) 3 rfl (by kernel_rfl) rfl rfl (fun w67 S79 => ?_)
         refine (wo_ct rfl rfl rfl rfl rfl rfl rfl cf57 S79 (TimesW_t hw22 hw18 (by omega) S79.lend) ?_)
         intro vw68 w68 M43 hle43 S80 hRw68; clear S79
         replace hl := hl.mono (Hp.un_mono hle43 S80.mx)
         replace hTt1 := hTt1.mono hle43
         replace hT0 := hT0.mono hle43
         replace hT2 := hT2.mono hle43
         replace hm3 := hm3.mono hle43
         replace hw5 := hw5.mono hle43
         replace hw6 := hw6.mono hle43
         replace hm4 := hm4.mono hle43
         replace hw7 := hw7.mono hle43
         replace hw8 := hw8.mono hle43
         replace hm5 := hm5.mono hle43
         replace hw9 := hw9.mono hle43
         replace hw10 := hw10.mono hle43
         replace hm6 := hm6.mono hle43
         replace hw11 := hw11.mono hle43
         replace hw12 := hw12.mono hle43
         replace hm7 := hm7.mono hle43
         replace hw13 := hw13.mono hle43
         replace hw14 := hw14.mono hle43
         replace hm8 := hm8.mono hle43
         replace hw15 := hw15.mono hle43
         replace hw16 := hw16.mono hle43
         replace hm9 := hm9.mono hle43
         replace hw17 := hw17.mono hle43
         replace hw18 := hw18.mono hle43
         replace hm10 := hm10.mono hle43
         replace hw19 := hw19.mono hle43
         replace hw20 := hw20.mono hle43
         replace hT3 := hT3.mono hle43
         replace hw21 := hw21.mono hle43
         replace hw22 := hw22.mono hle43
         replace hTt5 := hTt5.mono hle43
         replace hw23 := hw23.mono hle43
         obtain ⟨gw4, rfl, hw24⟩ := hRw68
         refine LeftW.grow [] (hle43) S80 ?_; clear S80
         change WA _ _ _ _ _ _ _ _ _ _ _ _ [_, _, _]
         refine wa_base ?_
         refine wa_only (i := 12) 2 rfl (by kernel_rfl) rfl rfl (fun w70 S82 => ?_)
         refine (wo_ct rfl rfl rfl rfl rfl rfl rfl cf56 S82 (PlusW_t hw23 hw24 (B2 + 1) (by omega) (by omega) (by omega) S82.lend) ?_)
         intro vw71 w71 M45 hle45 S83 hRw71; clear S82
         replace hl := hl.mono (Hp.un_mono hle45 S83.mx)
         replace hTt1 := hTt1.mono hle45
         replace hT0 := hT0.mono hle45
         replace hT2 := hT2.mono hle45
         replace hm3 := hm3.mono hle45
         replace hw5 := hw5.mono hle45
         replace hw6 := hw6.mono hle45
         replace hm4 := hm4.mono hle45
         replace hw7 := hw7.mono hle45
         replace hw8 := hw8.mono hle45
         replace hm5 := hm5.mono hle45
         replace hw9 := hw9.mono hle45
         replace hw10 := hw10.mono hle45
         replace hm6 := hm6.mono hle45
         replace hw11 := hw11.mono hle45
         replace hw12 := hw12.mono hle45
         replace hm7 := hm7.mono hle45
         replace hw13 := hw13.mono hle45
         replace hw14 := hw14.mono hle45
         replace hm8 := hm8.mono hle45
         replace hw15 := hw15.mono hle45
         replace hw16 := hw16.mono hle45
         replace hm9 := hm9.mono hle45
         replace hw17 := hw17.mono hle45
         replace hw18 := hw18.mono hle45
         replace hm10 := hm10.mono hle45
         replace hw19 := hw19.mono hle45
         replace hw20 := hw20.mono hle45
         replace hT3 := hT3.mono hle45
         replace hw21 := hw21.mono hle45
         replace hw22 := hw22.mono hle45
         replace hTt5 := hTt5.mono hle45
         replace hw23 := hw23.mono hle45
         replace hw24 := hw24.mono hle45
         obtain ⟨gw5, rfl, hw25⟩ := hRw71
         refine LeftW.grow [] (hle45) S83 ?_; clear S83
         change WA _ _ _ _ _ _ _ _ _ _ _ _ [_, _, _]
         refine wa_base ?_
         refine wa_take (i := 13) (d := 129) 1 rfl (by kernel_rfl) (by kernel_rfl) (by kernel_rfl) rfl rfl rfl (fun M46 N29 w72 hle46 S84 => .inl (run_indexT (C := (cdMap 84)) (vs := vs3) (xss := xs3) (i := 1) r (ix (ga l j)) rfl rfl rfl rfl sl91 S84.suf rfl (by first | omega | (simp only [lens]; omega) | (rw [ga_set _ _ _ _ (by first | omega | (simp only [List.length_set]; omega)), if_pos rfl]; simp only [List.length_set]; omega)) (by first | rfl | omega) (by first | omega | (simp only [lens]; omega) | (rw [ga_set _ _ _ _ (by first | omega | (simp only [List.length_set]; omega)), if_pos rfl]; simp only [List.length_set]; omega)))) ?_
         refine wa_only (i := 14) 0 rfl (by kernel_rfl) rfl rfl (fun w74 S86 => ?_)
         refine (wo_storeT (C := (cdMap 84)) (vs := vs3) (xss := xs3) (i := 1) (k := r) (e := ix (ga l j)) (j := 0) (us := [_]) (H' := [_, _, _]) (some gw5) rfl rfl S86 rfl (by first | omega | (simp only [lens]; omega) | (rw [ga_set _ _ _ _ (by first | omega | (simp only [List.length_set]; omega)), if_pos rfl]; simp only [List.length_set]; omega)) (by first | omega | (simp only [lens]; omega) | (rw [ga_set _ _ _ _ (by first | omega | (simp only [List.length_set]; omega)), if_pos rfl]; simp only [List.length_set]; omega)) rfl rfl rfl sz84 rfl rfl rfl rfl ?_)
         intro w76 S88; clear S86
         have hTt6 := hTt5.put r (ix (ga l j)) (hw25.up (by show B2 + 1 ≤ B2 + 2; omega)) (by first | omega | (simp only [lens]; omega) | (rw [ga_set _ _ _ _ (by first | omega | (simp only [List.length_set]; omega)), if_pos rfl]; simp only [List.length_set]; omega)) (by first | omega | (simp only [lens]; omega) | (rw [ga_set _ _ _ _ (by first | omega | (simp only [List.length_set]; omega)), if_pos rfl]; simp only [List.length_set]; omega))
         refine LeftW.turn (by kernel_rfl) S88 ?_; clear S88
         change WA _ _ _ _ _ _ _ _ _ _ _ _ [_, _, _]
         refine wa_end (by kernel_rfl) (fun w77 S89 => ?_)
         refine nm_sub [(7, _), (68, _), (69, _), (70, _), (12, _), (13, _), (101, _), (102, _), (103, _), (15, _), (16, _), (17, _)] ⟨rfl, rfl, rfl, rfl, rfl, rfl, rfl, rfl, rfl, rfl, rfl, rfl, trivial⟩ ?_
         refine nm_thn ?_
         refine ws_draw rfl (by kernel_rfl) S89 16 rfl ?_
         clear S89
         refine wa_takeP (i := 0) (d := 130) 15 rfl (by kernel_rfl) (by kernel_rfl) (by kernel_rfl) rfl rfl rfl (fun w78 => run_move rfl rfl) ?_
         refine wa_takeP (i := 1) (d := 131) 14 rfl (by kernel_rfl) (by kernel_rfl) (by kernel_rfl) rfl rfl rfl (fun w79 => run_move rfl rfl) ?_
         refine wa_takeP (i := 2) (d := 132) 13 rfl (by kernel_rfl) (by kernel_rfl) (by kernel_rfl) rfl rfl rfl (fun w80 => run_add rfl rfl rfl (by first | omega | (simp only [lens]; omega))) ?_
         refine wa_takeP (i := 3) (d := 133) 12 rfl (by kernel_rfl) (by kernel_rfl) (by kernel_rfl) rfl rfl rfl (fun w81 => run_move rfl rfl) ?_
         refine wa_take (i := 4) (d := 134) 11 rfl (by kernel_rfl) (by kernel_rfl) (by kernel_rfl) rfl rfl rfl (fun M52 N35 w82 hle52 S94 => .inl (run_indexP (e := 0) (k := 2) rfl rfl rfl Try.underlying93 sz92 (by first | rfl | omega) (by first | omega | (simp only [lens]; omega)))) ?_
         refine wa_take (i := 5) (d := 135) 10 rfl (by kernel_rfl) (by kernel_rfl) (by kernel_rfl) rfl rfl rfl (fun M53 N36 w83 hle53 S95 => .inl (run_indexP (e := 1) (k := 1) rfl rfl rfl Try.underlying92 sz84 (by first | rfl | omega) (by first | omega | (simp only [lens]; omega)))) ?_
         refine wa_take (i := 6) (d := 136) 9 rfl (by kernel_rfl) (by kernel_rfl) (by kernel_rfl) rfl rfl rfl (fun M54 N37 w84 hle54 S96 => .inl (run_load1 rfl rfl Try.underlying84 rfl (S96.suf.boxc (i := 0) rfl rfl))) ?_
         refine wa_takeP (i := 8) (d := 138) 8 rfl (by kernel_rfl) (by kernel_rfl) (by kernel_rfl) rfl rfl rfl (fun w86 => run_move rfl rfl) ?_
         refine wa_take (i := 9) (d := 139) 7 rfl (by kernel_rfl) (by kernel_rfl) (by kernel_rfl) rfl rfl rfl (fun M58 N41 w88 hle58 S100 => .inl (run_indexP (e := 1) (k := 2) rfl rfl rfl Try.underlying93 sz92 (by first | rfl | omega) (by first | omega | (simp only [lens]; omega)))) ?_
         refine wa_take (i := 10) (d := 140) 6 rfl (by kernel_rfl) (by kernel_rfl) (by kernel_rfl) rfl rfl rfl (fun M60 N43 w90 hle60 S102 => .inl (run_indexP (e := 1) (k := 1) rfl rfl rfl Try.underlying92 sz84 (by first | rfl | omega) (by first | omega | (simp only [lens]; omega)))) ?_
         refine wa_take (i := 11) (d := 141) 5 rfl (by kernel_rfl) (by kernel_rfl) (by kernel_rfl) rfl rfl rfl (fun M62 N45 w92 hle62 S104 => .inl (run_load1 rfl rfl Try.underlying84 rfl (S104.suf.boxc (i := 0) rfl rfl))) ?_
         refine wa_only (i := 7) 4 rfl (by kernel_rfl) rfl rfl (fun w94 S106 => ?_)
         refine (wo_ct rfl rfl rfl rfl rfl rfl rfl cf57 S106 (TimesW_t hw21 hw16 (by omega) S106.lend) ?_)
         intro vw95 w95 M64 hle64 S107 hRw95; clear S106
         replace hl := hl.mono (Hp.un_mono hle64 S107.mx)
         replace hTt1 := hTt1.mono hle64
         replace hT0 := hT0.mono hle64
         replace hT2 := hT2.mono hle64
         replace hm3 := hm3.mono hle64
         replace hw5 := hw5.mono hle64
         replace hw6 := hw6.mono hle64
         replace hm4 := hm4.mono hle64
         replace hw7 := hw7.mono hle64
         replace hw8 := hw8.mono hle64
         replace hm5 := hm5.mono hle64
         replace hw9 := hw9.mono hle64
         replace hw10 := hw10.mono hle64
         replace hm6 := hm6.mono hle64
         replace hw11 := hw11.mono hle64
         replace hw12 := hw12.mono hle64
         replace hm7 := hm7.mono hle64
         replace hw13 := hw13.mono hle64
         replace hw14 := hw14.mono hle64
         replace hm8 := hm8.mono hle64
         replace hw15 := hw15.mono hle64
         replace hw16 := hw16.mono hle64
         replace hm9 := hm9.mono hle64
         replace hw17 := hw17.mono hle64
         replace hw18 := hw18.mono hle64
         replace hm10 := hm10.mono hle64
         replace hw19 := hw19.mono hle64
         replace hw20 := hw20.mono hle64
         replace hT3 := hT3.mono hle64
         replace hw21 := hw21.mono hle64
         replace hw22 := hw22.mono hle64
         replace hTt5 := hTt5.mono hle64
         replace hw23 := hw23.mono hle64
         replace hw24 := hw24.mono hle64
         replace hw25 := hw25.mono hle64
         replace hTt6 := hTt6.mono hle64
         obtain ⟨gw6, rfl, hw26⟩ := hRw95
         refine LeftW.grow [] (hle64) S107 ?_; clear S107
         change WA _ _ _ _ _ _ _ _ _ _ _ _ [_, _, _]
         refine wa_base ?_
         refine wa_only (i := 12) 3 rfl (by kernel_rfl) rfl rfl (fun w97 S109 => ?_)
         refine (wo_ct rfl rfl rfl rfl rfl rfl rfl cf57 S109 (TimesW_t hw22 hw20 (by omega) S109.lend) ?_)
         intro vw98 w98 M66 hle66 S110 hRw98; clear S109
         replace hl := hl.mono (Hp.un_mono hle66 S110.mx)
         replace hTt1 := hTt1.mono hle66
         replace hT0 := hT0.mono hle66
         replace hT2 := hT2.mono hle66
         replace hm3 := hm3.mono hle66
         replace hw5 := hw5.mono hle66
         replace hw6 := hw6.mono hle66
         replace hm4 := hm4.mono hle66
         replace hw7 := hw7.mono hle66
         replace hw8 := hw8.mono hle66
         replace hm5 := hm5.mono hle66
         replace hw9 := hw9.mono hle66
         replace hw10 := hw10.mono hle66
         replace hm6 := hm6.mono hle66
         replace hw11 := hw11.mono hle66
         replace hw12 := hw12.mono hle66
         replace hm7 := hm7.mono hle66
         replace hw13 := hw13.mono hle66
         replace hw14 := hw14.mono hle66
         replace hm8 := hm8.mono hle66
         replace hw15 := hw15.mono hle66
         replace hw16 := hw16.mono hle66
         replace hm9 := hm9.mono hle66
         replace hw17 := hw17.mono hle66
         replace hw18 := hw18.mono hle66
         replace hm10 := hm10.mono hle66
         replace hw19 := hw19.mono hle66
         replace hw20 := hw20.mono hle66
         replace hT3 := hT3.mono hle66
         replace hw21 := hw21.mono hle66
         replace hw22 := hw22.mono hle66
         replace hTt5 := hTt5.mono hle66
         replace hw23 := hw23.mono hle66
         replace hw24 := hw24.mono hle66
         replace hw25 := hw25.mono hle66
         replace hTt6 := hTt6.mono hle66
         replace hw26 := hw26.mono hle66
         obtain ⟨gw7, rfl, hw27⟩ := hRw98
         refine LeftW.grow [] (hle66) S110 ?_; clear S110
         change WA _ _ _ _ _ _ _ _ _ _ _ _ [_, _, _]
         refine wa_base ?_
         refine wa_only (i := 13) 2 rfl (by kernel_rfl) rfl rfl (fun w100 S112 => ?_)
         refine (wo_ct rfl rfl rfl rfl rfl rfl rfl cf56 S112 (PlusW_t hw26 hw27 (B2 + 1) (by omega) (by omega) (by omega) S112.lend) ?_)
         intro vw101 w101 M68 hle68 S113 hRw101; clear S112
         replace hl := hl.mono (Hp.un_mono hle68 S113.mx)
         replace hTt1 := hTt1.mono hle68
         replace hT0 := hT0.mono hle68
         replace hT2 := hT2.mono hle68
         replace hm3 := hm3.mono hle68
         replace hw5 := hw5.mono hle68
         replace hw6 := hw6.mono hle68
         replace hm4 := hm4.mono hle68
         replace hw7 := hw7.mono hle68
         replace hw8 := hw8.mono hle68
         replace hm5 := hm5.mono hle68
         replace hw9 := hw9.mono hle68
         replace hw10 := hw10.mono hle68
         replace hm6 := hm6.mono hle68
         replace hw11 := hw11.mono hle68
         replace hw12 := hw12.mono hle68
         replace hm7 := hm7.mono hle68
         replace hw13 := hw13.mono hle68
         replace hw14 := hw14.mono hle68
         replace hm8 := hm8.mono hle68
         replace hw15 := hw15.mono hle68
         replace hw16 := hw16.mono hle68
         replace hm9 := hm9.mono hle68
         replace hw17 := hw17.mono hle68
         replace hw18 := hw18.mono hle68
         replace hm10 := hm10.mono hle68
         replace hw19 := hw19.mono hle68
         replace hw20 := hw20.mono hle68
         replace hT3 := hT3.mono hle68
         replace hw21 := hw21.mono hle68
         replace hw22 := hw22.mono hle68
         replace hTt5 := hTt5.mono hle68
         replace hw23 := hw23.mono hle68
         replace hw24 := hw24.mono hle68
         replace hw25 := hw25.mono hle68
         replace hTt6 := hTt6.mono hle68
         replace hw26 := hw26.mono hle68
         replace hw27 := hw27.mono hle68
         obtain ⟨gw8, rfl, hw28⟩ := hRw101
         refine LeftW.grow [] (hle68) S113 ?_; clear S113
         change WA _ _ _ _ _ _ _ _ _ _ _ _ [_, _, _]
         refine wa_base ?_
         refine wa_take (i := 14) (d := 144) 1 rfl (by kernel_rfl) (by kernel_rfl) (by kernel_rfl) rfl rfl rfl (fun M69 N49 w102 hle69 S114 => .inl (run_indexT (C := (cdMap 84)) (vs := vs3) (xss := (xs3.set r ((ga xs3 r).set (ix (ga l j)) (some gw5)))) (i := 1) r (ix (ga l j) + 1) rfl rfl rfl rfl sl91 S114.suf rfl (by first | omega | (simp only [lens]; omega) | (rw [ga_set _ _ _ _ (by first | omega | (simp only [List.length_set]; omega)), if_pos rfl]; simp only [List.length_set]; omega)) (by first | rfl | omega) (by first | omega | (simp only [lens]; omega) | (rw [ga_set _ _ _ _ (by first | omega | (simp only [List.length_set]; omega)), if_pos rfl]; simp only [List.length_set]; omega)))) ?_
         refine wa_only (i := 15) 0 rfl (by kernel_rfl) rfl rfl (fun w104 S116 => ?_)
         refine (wo_storeT (C := (cdMap 84)) (vs := vs3) (xss := (xs3.set r ((ga xs3 r).set (ix (ga l j)) (some gw5)))) (i := 1) (k := r) (e := ix (ga l j) + 1) (j := 0) (us := [_]) (H' := [_, _, _]) (some gw8) rfl rfl S116 rfl (by first | omega | (simp only [lens]; omega) | (rw [ga_set _ _ _ _ (by first | omega | (simp only [List.length_set]; omega)), if_pos rfl]; simp only [List.length_set]; omega)) (by first | omega | (simp only [lens]; omega) | (rw [ga_set _ _ _ _ (by first | omega | (simp only [List.length_set]; omega)), if_pos rfl]; simp only [List.length_set]; omega)) rfl rfl rfl sz84 rfl rfl rfl rfl ?_)
         intro w106 S118; clear S116
         have hTt7 := hTt6.put r (ix (ga l j) + 1) (hw28.up (by show B2 + 1 ≤ B2 + 2; omega)) (by first | omega | (simp only [lens]; omega) | (rw [ga_set _ _ _ _ (by first | omega | (simp only [List.length_set]; omega)), if_pos rfl]; simp only [List.length_set]; omega)) (by first | omega | (simp only [lens]; omega) | (rw [ga_set _ _ _ _ (by first | omega | (simp only [List.length_set]; omega)), if_pos rfl]; simp only [List.length_set]; omega))
         refine LeftW.turn (by kernel_rfl) S118 ?_; clear S118
         change WA _ _ _ _ _ _ _ _ _ _ _ _ [_, _, _]
         refine wa_end (by kernel_rfl) (fun w107 S119 => ?_)
         refine nm_blk ?_
         refine nm_sub [(7, _), (68, _), (69, _), (70, _), (12, _), (13, _), (101, _), (102, _), (103, _)] ⟨rfl, rfl, rfl, rfl, rfl, rfl, rfl, rfl, rfl, trivial⟩ ?_
         refine nm_thn ?_
         refine ws_region rfl ?_
         refine wlo 0 1 rfl rfl rfl (wo_run rfl rfl (run_add rfl rfl rfl (by first | omega | (simp only [lens]; omega))) ?_)
         refine wlm 1 2 rfl rfl rfl rfl rfl rfl rfl ?_
         refine wl_end rfl ?_
         refine nm_lp ?_
         intro ax_ hax_
         refine ⟨_, ?hq7m, ⟨r + 1, (B2 + 2), _, _, ((ps3.set r ((ga ps3 r).set (ix (ga l j)) (some (((buN l j r (ix (ga l j))) * Pol.o) + ((buN l j r ((ix (ga l j)) + 1)) * (mono (-1) 1)))))).set r ((ga (ps3.set r ((ga ps3 r).set (ix (ga l j)) (some (((buN l j r (ix (ga l j))) * Pol.o) + ((buN l j r ((ix (ga l j)) + 1)) * (mono (-1) 1)))))) r).set (ix (ga l j) + 1) (some (((buN l j r (ix (ga l j))) * (mono 0 1)) + ((buN l j r ((ix (ga l j)) + 1)) * (mono 0 1 + mono (-1) (-1))))))), _, _, ((((((hle14.trans hle41).trans hle43).trans hle45).trans hle64).trans hle66).trans hle68), rfl, hax_.sub ⟨rfl, rfl, rfl, rfl, rfl, rfl, rfl, rfl, rfl, trivial⟩, S119.pick [0, 1, 2] [_, _, _] (by decide) ⟨rfl, rfl, rfl, trivial⟩, ?hq7f0, ?hq7f1, ?hq7f2, ?hq7f3, ?hq7f4, ?hq7f5, ?hq7f6⟩⟩
         case hq7f0 => omega
         case hq7f1 => omega
         case hq7f2 => assumption
         case hq7f3 => simpa using hx3
         case hq7f4 => (intro q hq; rw [len_put _ _ _ _ (by rw [List.length_set]; omega), len_put _ _ _ _ (by omega)]; exact hxl3 q hq)
         case hq7f5 => exact bu_row (by unfold buX; first | (rw [if_pos (by omega), Pol.mul_zero, Pol.zero_add]) | (rw [if_neg (by omega), mono_one, Pol.mul_one])) (by unfold buY; first | (rw [if_pos (by omega), mono_one, Pol.mul_one]) | (rw [if_neg (by omega), Pol.mul_zero, Pol.add_zero])) hps3 (by omega) (by omega) (by omega) (by omega)
         case hq7f6 => exact hTt7
         case hq7m => omega
        ·have hb104 := of_decide_eq_false hb104
         refine ws_exit rfl rfl ?_
         refine nm_blk ?_
         refine nm_sub [(7, _), (68, _), (69, _), (70, _)] ⟨rfl, rfl, rfl, rfl, trivial⟩ ?_
         refine nm_thn ?_
         refine ws_region rfl ?_
         refine wlo 0 1 rfl rfl rfl (wo_run rfl rfl (run_add rfl rfl rfl (by first | omega | (simp only [lens]; omega))) ?_)
         refine wlm 1 2 rfl rfl rfl rfl rfl rfl rfl ?_
         refine wl_end rfl ?_
         refine nm_lp ?_
         intro ax_ hax_
         refine ⟨_, ?hq8m, ⟨j + 1, B2, _, _, ps3, _, _, (((((((((hle5.trans hle6).trans hle7).trans hle8).trans hle9).trans hle10).trans hle11).trans hle12).trans hle13).trans hle14), rfl, hax_.sub ⟨rfl, rfl, rfl, rfl, trivial⟩, S48.pick [1, 2] [_, _] (by decide) ⟨rfl, rfl, trivial⟩, ?hq8f0, ?hq8f1, ?hq8f2, ?hq8f3, ?hq8f4, ?hq8f5, ?hq8f6⟩⟩
         case hq8f0 => omega
         case hq8f1 => omega
         case hq8f2 => exact hv3
         case hq8f3 => exact hx3
         case hq8f4 => exact hxl3
         case hq8f5 => (intro q hq c hc; rw [hps3 q hq c hc, if_pos (by omega)])
         case hq8f6 => exact hT3
         case hq8m => omega
      ·have hb90 := of_decide_eq_false hb90
       refine ws_skip rfl ?_
       refine nm_sub [(7, _), (68, _), (69, _), (70, _), (12, _), (13, _)] ⟨rfl, rfl, rfl, rfl, rfl, rfl, trivial⟩ ?_
       refine nm_thn ?_
       refine ws_seqN Burau_n78 Burau_n79 rfl rfl rfl ?_
       refine ws_region rfl ?_
       refine wlm 0 1 rfl rfl rfl rfl rfl rfl rfl ?_
       refine wlo 1 2 rfl rfl rfl (wo_run rfl rfl (run_lenR (C := (cdV 91)) (i := 6) rfl rfl rfl rfl rfl rfl sl90 S34 rfl) ?_)
       refine wlm 2 3 rfl rfl rfl rfl rfl rfl rfl ?_
       refine wl_end rfl ?_
       refine nm_thn ?_
       refine ws_blockN Burau_n80 6 rfl rfl rfl ?_
       refine ws_loopE (fun mx_ ax_ wx_ => ∃ (r : Nat) (B2 : Nat) (vs3 : List SlV) (xs3 : List (List (Option Nat))) (ps3 : List (List (Option Pol))) (vrr : Value) (M71 : Hp), M9.le M71 ∧ mx_ = m - r ∧ Env 171 [(7, vrr), (68, .slice lA l.length lc), (69, .int .i64 (l.length : Int)), (70, .int .i64 (j : Int)), (12, .int .i64 (ix (ga l j) : Int)), (13, .pointer (some ⟨gb2, 0, none⟩)), (101, vrr), (102, .int .i64 (vs2.length : Int)), (103, .int .i64 (r : Int))] ax_ ∧ SH wx_ M71 X [Rs.box gb2 93 [.map (some gm6), .map (some gm7), .map (some gm8), .map (some gm9)], Rs.tab (cdMap 84) vs3 xs3, Rs.row (cdV 91) vrr vs3] ∧ r ≤ m ∧ B2 ≤ 12 * j + 2 * r + 1 ∧ vs3.length = m ∧ xs3.length = m ∧ (∀ q, q < m → (ga xs3 q).length = m) ∧ (∀ q, q < m → ∀ c, c < m → ga (ga ps3 q) c = some (if q < r then buN l (j + 1) q c else buN l j q c)) ∧ WksA (fun _ => B2) M71 xs3 ps3) rfl ?_ ?_
       ·intro ax_ hax_
        refine ⟨_, ⟨0, B, _, _, ps2, _, _, Hp.le_refl _, rfl, hax_.sub ⟨rfl, rfl, rfl, rfl, rfl, rfl, rfl, rfl, rfl, trivial⟩, S34.pick [0, 5, 6] [_, _, _] (by decide) ⟨rfl, rfl, rfl, trivial⟩, ?hq9f0, ?hq9f1, ?hq9f2, ?hq9f3, ?hq9f4, ?hq9f5, ?hq9f6⟩⟩
        case hq9f0 => omega
        case hq9f1 => omega
        case hq9f2 => exact hv2
        case hq9f3 => exact hx2
        case hq9f4 => exact hxl2
        case hq9f5 => (intro q hq c hc; rw [hps2 q hq c hc, if_neg (by omega)])
        case hq9f6 => exact hT2
       ·rintro m15 a5 w108 ⟨r, B2, vs3, xs3, ps3, vrr, M71, hle71, rfl, he5, S120, hr, hB2, hv3, hx3, hxl3, hps3, hT3⟩
        clear S34
        refine ws_in he5 (c := Burau_n81) rfl ?_
        clear he5 a5
        replace hl := hl.mono (Hp.un_mono hle71 S120.mx)
        replace hTt1 := hTt1.mono hle71
        replace hT0 := hT0.mono hle71
        replace hT2 := hT2.mono hle71
        replace hm3 := hm3.mono hle71
        replace hw5 := hw5.mono hle71
        replace hw6 := hw6.mono hle71
        replace hm4 := hm4.mono hle71
        replace hw7 := hw7.mono hle71
        replace hw8 := hw8.mono hle71
        replace hm5 := hm5.mono hle71
        replace hw9 := hw9.mono hle71
        replace hw10 := hw10.mono hle71
        replace hm6 := hm6.mono hle71
        replace hw11 := hw11.mono hle71
        replace hw12 := hw12.mono hle71
        have hT3l := hT3.1
        have hxl3r := hxl3 r
        have hT3r := fun h => (hT3.2 r h).1
        have hpsr := fun h => hps3 r h
        refine ws_seqN Burau_n82 Burau_n83 rfl rfl rfl ?_
        refine ws_region rfl ?_
        refine wlo 0 1 rfl rfl rfl (wo_run rfl rfl (run_lss rfl rfl rfl) ?_)
        refine wl_end rfl ?_
        refine nm_thn ?_
        refine ws_seqN Burau_n84 Burau_n85 rfl rfl rfl ?_
        refine ws_condN Burau_n86 Burau_n87 rfl rfl rfl rfl (fun hb104 => ?_) (fun hb104 => ?_)
        ·have hb104 := of_decide_eq_true hb104
         refine ws_skip rfl ?_
         refine nm_sub [(7, _), (68, _), (69, _), (70, _), (12, _), (13, _), (101, _), (102, _), (103, _)] ⟨rfl, rfl, rfl, rfl, rfl, rfl, rfl, rfl, rfl, trivial⟩ ?_
         refine nm_thn ?_
         refine ws_seqN Burau_n88 Burau_n89 rfl rfl rfl ?_
         refine ws_blockN Burau_n90 7 rfl rfl rfl ?_
         refine ws_seqN Burau_n91 Burau_n92 rfl rfl rfl ?_
         refine ws_region rfl ?_
         refine wlo 0 1 rfl rfl rfl (wo_run rfl rfl (run_indexR (C := (cdV 91)) (i := 2) r rfl rfl rfl sl90 S120 rfl (by first | rfl | omega) (by first | omega | (simp only [lens]; omega))) ?_)
         refine wlo 1 2 rfl rfl rfl (wo_run rfl rfl (run_load1 rfl rfl Try.underlying91 rfl (S120.rowc (i := 2) (e := r) (j := 0) rfl (by first | omega | (simp only [lens]; omega)) rfl rfl)) ?_)
         refine wla 2 3 rfl rfl rfl rfl rfl rfl rfl ?_
         refine wl_end rfl ?_
         refine nm_sub [(7, _), (68, _), (69, _), (70, _), (12, _), (13, _), (101, _), (102, _), (103, _), (15, _)] ⟨rfl, rfl, rfl, rfl, rfl, rfl, rfl, rfl, rfl, rfl, trivial⟩ ?_
         refine nm_thn ?_
         refine ws_seqN Burau_n93 Burau_n94 rfl rfl rfl ?_
         refine ws_draw rfl (by kernel_rfl) S120 11 rfl ?_
         clear S120
         refine wa_takeP (i := 0) (d := 107) 10 rfl (by kernel_rfl) (by kernel_rfl) (by kernel_rfl) rfl rfl rfl (fun w109 => run_move rfl rfl) ?_
         refine wa_takeP (i := 1) (d := 108) 9 rfl (by kernel_rfl) (by kernel_rfl) (by kernel_rfl) rfl rfl rfl (fun w110 => run_move rfl rfl) ?_
         refine wa_take (i := 2) (d := 109) 8 rfl (by kernel_rfl) (by kernel_rfl) (by kernel_rfl) rfl rfl rfl (fun M74 N53 w111 hle74 S123 => .inl (run_indexT (C := (cdMap 84)) (vs := vs3) (xss := xs3) (i := 1) r (ix (ga l j)) rfl rfl rfl rfl sl91 S123.suf rfl (by first | omega | (simp only [lens]; omega) | (rw [ga_set _ _ _ _ (by first | omega | (simp only [List.length_set]; omega)), if_pos rfl]; simp only [List.length_set]; omega)) (by first | rfl | omega) (by first | omega | (simp only [lens]; omega) | (rw [ga_set _ _ _ _ (by first | omega | (simp only [List.length_set]; omega)), if_pos rfl]; simp only [List.length_set]; omega)))) ?_
         have hk3 := hT3.2 r (by first | omega | (simp only [lens]; omega) | (rw [ga_set _ _ _ _ (by first | omega | (simp only [List.length_set]; omega)), if_pos rfl]; simp only [List.length_set]; omega))
         obtain ⟨gw9, eg3, hw29⟩ := hk3.get (i := ix (ga l j)) (p := buN l j r (ix (ga l j))) (by first | omega | (simp only [lens]; omega)) (by rw [hpsr (by omega) _ (by omega), if_neg (by omega)])
         replace hw29 : Wk _ gw9 B2 (buN l j r (ix (ga l j))) := hw29
         refine wa_take (i := 3) (d := 110) 7 rfl (by kernel_rfl) (by kernel_rfl) (by kernel_rfl) rfl rfl rfl (fun M75 N54 w112 hle75 S124 => .inl (run_load1 rfl rfl Try.underlying84 rfl (S124.suf.tabc (i := 1) (k := r) (e := ix (ga l j)) (j := 0) rfl (by first | omega | (simp only [lens]; omega) | (rw [ga_set _ _ _ _ (by first | omega | (simp only [List.length_set]; omega)), if_pos rfl]; simp only [List.length_set]; omega)) (by first | omega | (simp only [lens]; omega) | (rw [ga_set _ _ _ _ (by first | omega | (simp only [List.length_set]; omega)), if_pos rfl]; simp only [List.length_set]; omega)) rfl (congrArg (fun n => some (Value.map n)) eg3)))) ?_
         refine wa_takeP (i := 4) (d := 111) 6 rfl (by kernel_rfl) (by kernel_rfl) (by kernel_rfl) rfl rfl rfl (fun w113 => run_move rfl rfl) ?_
         refine wa_takeP (i := 5) (d := 112) 5 rfl (by kernel_rfl) (by kernel_rfl) (by kernel_rfl) rfl rfl rfl (fun w114 => run_move rfl rfl) ?_
         refine wa_takeP (i := 6) (d := 113) 4 rfl (by kernel_rfl) (by kernel_rfl) (by kernel_rfl) rfl rfl rfl (fun w115 => run_add rfl rfl rfl (by first | omega | (simp only [lens]; omega))) ?_
         refine wa_take (i := 7) (d := 114) 3 rfl (by kernel_rfl) (by kernel_rfl) (by kernel_rfl) rfl rfl rfl (fun M79 N58 w116 hle79 S128 => .inl (run_indexT (C := (cdMap 84)) (vs := vs3) (xss := xs3) (i := 1) r (ix (ga l j) + 1) rfl rfl rfl rfl sl91 S128.suf rfl (by first | omega | (simp only [lens]; omega) | (rw [ga_set _ _ _ _ (by first | omega | (simp only [List.length_set]; omega)), if_pos rfl]; simp only [List.length_set]; omega)) (by first | rfl | omega) (by first | omega | (simp only [lens]; omega) | (rw [ga_set _ _ _ _ (by first | omega | (simp only [List.length_set]; omega)), if_pos rfl]; simp only [List.length_set]; omega)))) ?_
         have hk4 := hT3.2 r (by first | omega | (simp only [lens]; omega) | (rw [ga_set _ _ _ _ (by first | omega | (simp only [List.length_set]; omega)), if_pos rfl]; simp only [List.length_set]; omega))
         obtain ⟨gw10, eg4, hw30⟩ := hk4.get (i := ix (ga l j) + 1) (p := buN l j r ((ix (ga l j)) + 1)) (by first | omega | (simp only [lens]; omega)) (by rw [hpsr (by omega) _ (by omega), if_neg (by omega)])
         replace hw30 : Wk _ gw10 B2 (buN l j r ((ix (ga l j)) + 1)) := hw30
         refine wa_take (i := 8) (d := 115) 2 rfl (by kernel_rfl) (by kernel_rfl) (by kernel_rfl) rfl rfl rfl (fun M80 N59 w117 hle80 S129 => .inl (run_load1 rfl rfl Try.underlying84 rfl (S129.suf.tabc (i := 1) (k := r) (e := ix (ga l j) + 1) (j := 0) rfl (by first | omega | (simp only [lens]; omega) | (rw [ga_set _ _ _ _ (by first | omega | (simp only [List.length_set]; omega)), if_pos rfl]; simp only [List.length_set]; omega)) (by first | omega | (simp only [lens]; omega) | (rw [ga_set _ _ _ _ (by first | omega | (simp only [List.length_set]; omega)), if_pos rfl]; simp only [List.length_set]; omega)) rfl (congrArg (fun n => some (Value.map n)) eg4)))) ?_
         refine wa_takeP (i := 9) (d := 16) 1 rfl (by kernel_rfl) (by kernel_rfl) (by kernel_rfl) rfl rfl rfl (fun w118 => run_assign rfl rfl) ?_
         refine wa_takeP (i := 10) (d := 17) 0 rfl (by kernel_rfl) (by kernel_rfl) (by kernel_rfl) rfl rfl rfl (fun w119 => run_assign rfl rfl) ?_
         refine wa_end (by kernel_rfl) (fun w120 S132 => ?_)
         refine nm_sub [(7, _), (68, _), (69, _), (70, _), (12, _), (13, _), (101, _), (102, _), (103, _), (15, _), (16, _), (17, _)] ⟨rfl, rfl, rfl, rfl, rfl, rfl, rfl, rfl, rfl, rfl, rfl, rfl, trivial⟩ ?_
         refine nm_thn ?_
         refine ws_seqN Burau_n95 Burau_n96 rfl rfl rfl ?_
         have hTt8 := hT3.up (bf' := fun _ => B2 + 2) (fun _ => by omega)
         refine ws_draw rfl (by kernel_rfl) S132 15 rfl ?_
         clear S132
         refine wa_takeP (i := 0) (d := 116) 14 rfl (by kernel_rfl) (by kernel_rfl) (by kernel_rfl) rfl rfl rfl (fun w121 => run_move rfl rfl) ?_
         refine wa_takeP (i := 1) (d := 117) 13 rfl (by kernel_rfl) (by kernel_rfl) (by kernel_rfl) rfl rfl rfl (fun w122 => run_move rfl rfl) ?_
         refine wa_takeP (i := 2) (d := 118) 12 rfl (by kernel_rfl) (by kernel_rfl) (by kernel_rfl) rfl rfl rfl (fun w123 => run_move rfl rfl) ?_
         refine wa_take (i := 3) (d := 119) 11 rfl (by kernel_rfl) (by kernel_rfl) (by kernel_rfl) rfl rfl rfl (fun M86 N65 w124 hle86 S136 => .inl (run_indexP (e := 0) (k := 2) rfl rfl rfl Try.underlying93 sz92 (by first | rfl | omega) (by first | omega | (simp only [lens]; omega)))) ?_
         refine wa_take (i := 4) (d := 120) 10 rfl (by kernel_rfl) (by kernel_rfl) (by kernel_rfl) rfl rfl rfl (fun M87 N66 w125 hle87 S137 => .inl (run_indexP (e := 0) (k := 1) rfl rfl rfl Try.underlying92 sz84 (by first | rfl | omega) (by first | omega | (simp only [lens]; omega)))) ?_
         refine wa_take (i := 5) (d := 121) 9 rfl (by kernel_rfl) (by kernel_rfl) (by kernel_rfl) rfl rfl rfl (fun M88 N67 w126 hle88 S138 => .inl (run_load1 rfl rfl Try.underlying84 rfl (S138.suf.boxc (i := 0) rfl rfl))) ?_
         refine wa_takeP (i := 7) (d := 123) 8 rfl (by kernel_rfl) (by kernel_rfl) (by kernel_rfl) rfl rfl rfl (fun w128 => run_move rfl rfl) ?_
         refine wa_take (i := 8) (d := 124) 7 rfl (by kernel_rfl) (by kernel_rfl) (by kernel_rfl) rfl rfl rfl (fun M92 N71 w130 hle92 S142 => .inl (run_indexP (e := 1) (k := 2) rfl rfl rfl Try.underlying93 sz92 (by first | rfl | omega) (by first | omega | (simp only [lens]; omega)))) ?_
         refine wa_take (i := 9) (d := 125) 6 rfl (by kernel_rfl) (by kernel_rfl) (by kernel_rfl) rfl rfl rfl (fun M94 N73 w132 hle94 S144 => .inl (run_indexP (e := 0) (k := 1) rfl rfl rfl Try.underlying92 sz84 (by first | rfl | omega) (by first | omega | (simp only [lens]; omega)))) ?_
         refine wa_take (i := 10) (d := 126) 5 rfl (by kernel_rfl) (by kernel_rfl) (by kernel_rfl) rfl rfl rfl (fun M96 N75 w134 hle96 S146 => .inl (run_load1 rfl rfl Try.underlying84 rfl (S146.suf.boxc (i := 0) rfl rfl))) ?_
         refine wa_only (i := 6) 4 rfl (by kernel_rfl) rfl rfl (fun w136 S148 => ?_)
         refine (wo_ct rfl rfl rfl rfl rfl rfl rfl cf57 S148 (TimesW_t hw29 hw6 (by omega) S148.lend) ?_)
         intro vw137 w137 M98 hle98 S149 hRw137; clear S148
         replace hl := hl.mono (Hp.un_mono hle98 S149.mx)
         replace hTt1 := hTt1.mono hle98
         replace hT0 := hT0.mono hle98
         replace hT2 := hT2.mono hle98
         replace hm3 := hm3.mono hle98
         replace hw5 := hw5.mono hle98
         replace hw6 := hw6.mono hle98
         replace hm4 := hm4.mono hle98
         replace hw7 := hw7.mono hle98
         replace hw8 := hw8.mono hle98
         replace hm5 := hm5.mono hle98
         replace hw9 := hw9.mono hle98
         replace hw10 := hw10.mono hle98
         replace hm6 := hm6.mono hle98
         replace hw11 := hw11.mono hle98
         replace hw12 := hw12.mono hle98
         replace hT3 := hT3.mono hle98
         replace hw29 := hw29.mono hle98
         replace hw30 := hw30.mono hle98
         replace hTt8 := hTt8.mono hle98
         obtain ⟨gw11, rfl, hw31⟩ := hRw137
         refine LeftW.grow [] (hle98) S149 ?_; clear S149
         change WA _ _ _ _ _ _ _ _ _ _ _ _ [_, _, _]
         refine wa_base ?_
         refine wa_only (i := 11) 3 rfl (by kernel_rfl) rfl rfl (fun w139 S151 => ?_)
         refine (wo_ct rfl rfl rfl rfl rfl rfl rfl cf57 S151 (TimesW_t hw30 hw10 (by omega) S151.lend) ?_)
         intro vw140 w140 M100 hle100 S152 hRw140; clear S151
         replace hl := hl.mono (Hp.un_mono hle100 S152.mx)
         replace hTt1 := hTt1.mono hle100
         replace hT0 := hT0.mono hle100
         replace hT2 := hT2.mono hle100
         replace hm3 := hm3.mono hle100
         replace hw5 := hw5.mono hle100
         replace hw6 := hw6.mono hle100
         replace hm4 := hm4.mono hle100
         replace hw7 := hw7.mono hle100
         replace hw8 := hw8.mono hle100
         replace hm5 := hm5.mono hle100
         replace hw9 := hw9.mono hle100
         replace hw10 := hw10.mono hle100
         replace hm6 := hm6.mono hle100
         replace hw11 := hw11.mono hle100
         replace hw12 := hw12.mono hle100
         replace hT3 := hT3.mono hle100
         replace hw29 := hw29.mono hle100
         replace hw30 := hw30.mono hle100
         replace hTt8 := hTt8.mono hle100
         replace hw31 := hw31.mono hle100
         obtain ⟨gw12, rfl, hw32⟩ := hRw140
         refine LeftW.grow [] (hle100) S152 ?_; clear S152
         change WA _ _ _ _ _ _ _ _ _ _ _ _ [_, _, _]
         refine wa_base ?_
         refine wa_only (i := 12) 2 rfl (by kernel_rfl) rfl rfl (fun w142 S154 => ?_)
         refine (wo_ct rfl rfl rfl rfl rfl rfl rfl cf56 S154 (PlusW_t hw31 hw32 (B2 + 1) (by omega) (by omega) (by omega) S154.lend) ?_)
         intro vw143 w143 M102 hle102 S155 hRw143; clear S154
         replace hl := hl.mono (Hp.un_mono hle102 S155.mx)
         replace hTt1 := hTt1.mono hle102
         replace hT0 := hT0.mono hle102
         replace hT2 := hT2.mono hle102
         replace hm3 := hm3.mono hle102
         replace hw5 := hw5.mono hle102
         replace hw6 := hw6.mono hle102
         replace hm4 := hm4.mono hle102
         replace hw7 := hw7.mono hle102
         replace hw8 := hw8.mono hle102
         replace hm5 := hm5.mono hle102
         replace hw9 := hw9.mono hle102
         replace hw10 := hw10.mono hle102
         replace hm6 := hm6.mono hle102
         replace hw11 := hw11.mono hle102
         replace hw12 := hw12.mono hle102
         replace hT3 := hT3.mono hle102
         replace hw29 := hw29.mono hle102
         replace hw30 := hw30.mono hle102
         replace hTt8 := hTt8.mono hle102
         replace hw31 := hw31.mono hle102
         replace hw32 := hw32.mono hle102
         obtain ⟨gw13, rfl, hw33⟩ := hRw143
         refine LeftW.grow [] (hle102) S155 ?_; clear S155
         change WA _ _ _ _ _ _ _ _ _ _ _ _ [_, _, _]
         refine wa_base ?_
         refine wa_take (i := 13) (d := 129) 1 rfl (by kernel_rfl) (by kernel_rfl) (by kernel_rfl) rfl rfl rfl (fun M103 N79 w144 hle103 S156 => .inl (run_indexT (C := (cdMap 84)) (vs := vs3) (xss := xs3) (i := 1) r (ix (ga l j)) rfl rfl rfl rfl sl91 S156.suf rfl (by first | omega | (simp only [lens]; omega) | (rw [ga_set _ _ _ _ (by first | omega | (simp only [List.length_set]; omega)), if_pos rfl]; simp only [List.length_set]; omega)) (by first | rfl | omega) (by first | omega | (simp only [lens]; omega) | (rw [ga_set _ _ _ _ (by first | omega | (simp only [List.length_set]; omega)), if_pos rfl]; simp only [List.length_set]; omega)))) ?_
         refine wa_only (i := 14) 0 rfl (by kernel_rfl) rfl rfl (fun w146 S158 => ?_)
         refine (wo_storeT (C := (cdMap 84)) (vs := vs3) (xss := xs3) (i := 1) (k := r) (e := ix (ga l j)) (j := 0) (us := [_]) (H' := [_, _, _]) (some gw13) rfl rfl S158 rfl (by first | omega | (simp only [lens]; omega) | (rw [ga_set _ _ _ _ (by first | omega | (simp only [List.length_set]; omega)), if_pos rfl]; simp only [List.length_set]; omega)) (by first | omega | (simp only [lens]; omega) | (rw [ga_set _ _ _ _ (by first | omega | (simp only [List.length_set]; omega)), if_pos rfl]; simp only [List.length_set]; omega)) rfl rfl rfl sz84 rfl rfl rfl rfl ?_)
         intro w148 S160; clear S158
         have hTt9 := hTt8.put r (ix (ga l j)) (hw33.up (by show B2 + 1 ≤ B2 + 2; omega)) (by first | omega | (simp only [lens]; omega) | (rw [ga_set _ _ _ _ (by first | omega | (simp only [List.length_set]; omega)), if_pos rfl]; simp only [List.length_set]; omega)) (by first | omega | (simp only [lens]; omega) | (rw [ga_set _ _ _ _ (by first | omega | (simp only [List.length_set]; omega)), if_pos rfl]; simp only [List.length_set]; omega))
         refine LeftW.turn (by kernel_rfl) S160 ?_; clear S160
         change WA _ _ _ _ _ _ _ _ _ _ _ _ [_, _, _]
         refine wa_end (by kernel_rfl) (fun w149 S161 => ?_)
         refine nm_sub [(7, _), (68, _), (69, _), (70, _), (12, _), (13, _), (101, _), (102, _), (103, _), (15, _), (16, _), (17, _)] ⟨rfl, rfl, rfl, rfl, rfl, rfl, rfl, rfl, rfl, rfl, rfl, rfl, trivial⟩ ?_
         refine nm_thn ?_
         refine ws_draw rfl (by kernel_rfl) S161 16 rfl ?_
         clear S161
         refine wa_takeP (i := 0) (d := 130) 15 rfl (by kernel_rfl) (by kernel_rfl) (by kernel_rfl) rfl rfl rfl (fun w150 => run_move rfl rfl) ?_
         refine wa_takeP (i := 1) (d := 131) 14 rfl (by kernel_rfl) (by kernel_rfl) (by kernel_rfl) rfl rfl rfl (fun w151 => run_move rfl rfl) ?_
         refine wa_takeP (i := 2) (d := 132) 13 rfl (by kernel_rfl) (by kernel_rfl) (by kernel_rfl) rfl rfl rfl (fun w152 => run_add rfl rfl rfl (by first | omega | (simp only [lens]; omega))) ?_
         refine wa_takeP (i := 3) (d := 133) 12 rfl (by kernel_rfl) (by kernel_rfl) (by kernel_rfl) rfl rfl rfl (fun w153 => run_move rfl rfl) ?_
         refine wa_take (i := 4) (d := 134) 11 rfl (by kernel_rfl) (by kernel_rfl) (by kernel_rfl) rfl rfl rfl (fun M109 N85 w154 hle109 S166 => .inl (run_indexP (e := 0) (k := 2) rfl rfl rfl Try.underlying93 sz92 (by first | rfl | omega) (by first | omega | (simp only [lens]; omega)))) ?_
         refine wa_take (i := 5) (d := 135) 10 rfl (by kernel_rfl) (by kernel_rfl) (by kernel_rfl) rfl rfl rfl (fun M110 N86 w155 hle110 S167 => .inl (run_indexP (e := 1) (k := 1) rfl rfl rfl Try.underlying92 sz84 (by first | rfl | omega) (by first | omega | (simp only [lens]; omega)))) ?_
         refine wa_take (i := 6) (d := 136) 9 rfl (by kernel_rfl) (by kernel_rfl) (by kernel_rfl) rfl rfl rfl (fun M111 N87 w156 hle111 S168 => .inl (run_load1 rfl rfl Try.underlying84 rfl (S168.suf.boxc (i := 0) rfl rfl))) ?_
         refine wa_takeP (i := 8) (d := 138) 8 rfl (by kernel_rfl) (by kernel_rfl) (by kernel_rfl) rfl rfl rfl (fun w158 => run_move rfl rfl) ?_
         refine wa_take (i := 9) (d := 139) 7 rfl (by kernel_rfl) (by kernel_rfl) (by kernel_rfl) rfl rfl rfl (fun M115 N91 w160 hle115 S172 => .inl (run_indexP (e := 1) (k := 2) rfl rfl rfl Try.underlying93 sz92 (by first | rfl | omega) (by first | omega | (simp only [lens]; omega)))) ?_
         refine wa_take (i := 10) (d := 140) 6 rfl (by kernel_rfl) (by kernel_rfl) (by kernel_rfl) rfl rfl rfl (fun M117 N93 w162 hle117 S174 => .inl (run_indexP (e := 1) (k := 1) rfl rfl rfl Try.underlying92 sz84 (by first | rfl | omega) (by first | omega | (simp only [lens]; omega)))) ?_
         refine wa_take (i := 11) (d := 141) 5 rfl (by kernel_rfl) (by kernel_rfl) (by kernel_rfl) rfl rfl rfl (fun M119 N95 w164 hle119 S176 => .inl (run_load1 rfl rfl Try.underlying84 rfl (S176.suf.boxc (i := 0) rfl rfl))) ?_
         refine wa_only (i := 7) 4 rfl (by kernel_rfl) rfl rfl (fun w166 S178 => ?_)
         refine (wo_ct rfl rfl rfl rfl rfl rfl rfl cf57 S178 (TimesW_t hw29 hw8 (by omega) S178.lend) ?_)
         intro vw167 w167 M121 hle121 S179 hRw167; clear S178
         replace hl := hl.mono (Hp.un_mono hle121 S179.mx)
         replace hTt1 := hTt1.mono hle121
         replace hT0 := hT0.mono hle121
         replace hT2 := hT2.mono hle121
         replace hm3 := hm3.mono hle121
         replace hw5 := hw5.mono hle121
         replace hw6 := hw6.mono hle121
         replace hm4 := hm4.mono hle121
         replace hw7 := hw7.mono hle121
         replace hw8 := hw8.mono hle121
         replace hm5 := hm5.mono hle121
         replace hw9 := hw9.mono hle121
         replace hw10 := hw10.mono hle121
         replace hm6 := hm6.mono hle121
         replace hw11 := hw11.mono hle121
         replace hw12 := hw12.mono hle121
         replace hT3 := hT3.mono hle121
         replace hw29 := hw29.mono hle121
         replace hw30 := hw30.mono hle121
         replace hTt8 := hTt8.mono hle121
         replace hw31 := hw31.mono hle121
         replace hw32 := hw32.mono hle121
         replace hw33 := hw33.mono hle121
         replace hTt9 := hTt9.mono hle121
         obtain ⟨gw14, rfl, hw34⟩ := hRw167
         refine LeftW.grow [] (hle121) S179 ?_; clear S179
         change WA _ _ _ _ _ _ _ _ _ _ _ _ [_, _, _]
         refine wa_base ?_
         refine wa_only (i := 12) 3 rfl (by kernel_rfl) rfl rfl (fun w169 S181 => ?_)
         refine (wo_ct rfl rfl rfl rfl rfl rfl rfl cf57 S181 (TimesW_t hw30 hw12 (by omega) S181.lend) ?_)
         intro vw170 w170 M123 hle123 S182 hRw170; clear S181
         replace hl := hl.mono (Hp.un_mono hle123 S182.mx)
         replace hTt1 := hTt1.mono hle123
         replace hT0 := hT0.mono hle123
         replace hT2 := hT2.mono hle123
         replace hm3 := hm3.mono hle123
         replace hw5 := hw5.mono hle123
         replace hw6 := hw6.mono hle123
         replace hm4 := hm4.mono hle123
         replace hw7 := hw7.mono hle123
         replace hw8 := hw8.mono hle123
         replace hm5 := hm5.mono hle123
         replace hw9 := hw9.mono hle123
         replace hw10 := hw10.mono hle123
         replace hm6 := hm6.mono hle123
         replace hw11 := hw11.mono hle123
         replace hw12 := hw12.mono hle123
         replace hT3 := hT3.mono hle123
         replace hw29 := hw29.mono hle123
         replace hw30 := hw30.mono hle123
         replace hTt8 := hTt8.mono hle123
         replace hw31 := hw31.mono hle123
         replace hw32 := hw32.mono hle123
         replace hw33 := hw33.mono hle123
         replace hTt9 := hTt9.mono hle123
         replace hw34 := hw34.mono hle123
         obtain ⟨gw15, rfl, hw35⟩ := hRw170
         refine LeftW.grow [] (hle123) S182 ?_; clear S182
         change WA _ _ _ _ _ _ _ _ _ _ _ _ [_, _, _]
         refine wa_base ?_
         refine wa_only (i := 13) 2 rfl (by kernel_rfl) rfl rfl (fun w172 S184 => ?_)
         refine (wo_ct rfl rfl rfl rfl rfl rfl rfl cf56 S184 (PlusW_t hw34 hw35 (B2 + 1) (by omega) (by omega) (by omega) S184.lend) ?_)
         intro vw173 w173 M125 hle125 S185 hRw173; clear S184
         replace hl := hl.mono (Hp.un_mono hle125 S185.mx)
         replace hTt1 := hTt1.mono hle125
         replace hT0 := hT0.mono hle125
         replace hT2 := hT2.mono hle125
         replace hm3 := hm3.mono hle125
         replace hw5 := hw5.mono hle125
         replace hw6 := hw6.mono hle125
         replace hm4 := hm4.mono hle125
         replace hw7 := hw7.mono hle125
         replace hw8 := hw8.mono hle125
         replace hm5 := hm5.mono hle125
         replace hw9 := hw9.mono hle125
         replace hw10 := hw10.mono hle125
         replace hm6 := hm6.mono hle125
         replace hw11 := hw11.mono hle125
         replace hw12 := hw12.mono hle125
         replace hT3 := hT3.mono hle125
         replace hw29 := hw29.mono hle125
         replace hw30 := hw30.mono hle125
         replace hTt8 := hTt8.mono hle125
         replace hw31 := hw31.mono hle125
         replace hw32 := hw32.mono hle125
         replace hw33 := hw33.mono hle125
         replace hTt9 := hTt9.mono hle125
         replace hw34 := hw34.mono hle125
         replace hw35 := hw35.mono hle125
         obtain ⟨gw16, rfl, hw36⟩ := hRw173
         refine LeftW.grow [] (hle125) S185 ?_; clear S185
         change WA _ _ _ _ _ _ _ _ _ _ _ _ [_, _, _]
         refine wa_base ?_
         refine wa_take (i := 14) (d := 144) 1 rfl (by kernel_rfl) (by kernel_rfl) (by kernel_rfl) rfl rfl rfl (fun M126 N99 w174 hle126 S186 => .inl (run_indexT (C := (cdMap 84)) (vs := vs3) (xss := (xs3.set r ((ga xs3 r).set (ix (ga l j)) (some gw13)))) (i := 1) r (ix (ga l j) + 1) rfl rfl rfl rfl sl91 S186.suf rfl (by first | omega | (simp only [lens]; omega) | (rw [ga_set _ _ _ _ (by first | omega | (simp only [List.length_set]; omega)), if_pos rfl]; simp only [List.length_set]; omega)) (by first | rfl | omega) (by first | omega | (simp only [lens]; omega) | (rw [ga_set _ _ _ _ (by first | omega | (simp only [List.length_set]; omega)), if_pos rfl]; simp only [List.length_set]; omega)))) ?_
         refine wa_only (i := 15) 0 rfl (by kernel_rfl) rfl rfl (fun w176 S188 => ?_)
         refine (wo_storeT (C := (cdMap 84)) (vs := vs3) (xss := (xs3.set r ((ga xs3 r).set (ix (ga l j)) (some gw13)))) (i := 1) (k := r) (e := ix (ga l j) + 1) (j := 0) (us := [_]) (H' := [_, _, _]) (some gw16) rfl rfl S188 rfl (by first | omega | (simp only [lens]; omega) | (rw [ga_set _ _ _ _ (by first | omega | (simp only [List.length_set]; omega)), if_pos rfl]; simp only [List.length_set]; omega)) (by first | omega | (simp only [lens]; omega) | (rw [ga_set _ _ _ _ (by first | omega | (simp only [List.length_set]; omega)), if_pos rfl]; simp only [List.length_set]; omega)) rfl rfl rfl sz84 rfl rfl rfl rfl ?_)
         intro w178 S190; clear S188
         have hTt10 := hTt9.put r (ix (ga l j) + 1) (hw36.up (by show B2 + 1 ≤ B2 + 2; omega)) (by first | omega | (simp only [lens]; omega) | (rw [ga_set _ _ _ _ (by first | omega | (simp only [List.length_set]; omega)), if_pos rfl]; simp only [List.length_set]; omega)) (by first | omega | (simp only [lens]; omega) | (rw [ga_set _ _ _ _ (by first | omega | (simp only [List.length_set]; omega)), if_pos rfl]; simp only [List.length_set]; omega))
         refine LeftW.turn (by kernel_rfl) S190 ?_; clear S190
         change WA _ _ _ _ _ _ _ _ _ _ _ _ [_, _, _]
         refine wa_end (by kernel_rfl) (fun w179 S191 => ?_)
         refine nm_blk ?_
         refine nm_sub [(7, _), (68, _), (69, _), (70, _), (12, _), (13, _), (101, _), (102, _), (103, _)] ⟨rfl, rfl, rfl, rfl, rfl, rfl, rfl, rfl, rfl, trivial⟩ ?_
         refine nm_thn ?_
         refine ws_region rfl ?_
         refine wlo 0 1 rfl rfl rfl (wo_run rfl rfl (run_add rfl rfl rfl (by first | omega | (simp only [lens]; omega))) ?_)
         refine wlm 1 2 rfl rfl rfl rfl rfl rfl rfl ?_
         refine wl_end rfl ?_
         refine nm_lp ?_
         intro ax_ hax_
         refine ⟨_, ?hq10m, ⟨r + 1, (B2 + 2), _, _, ((ps3.set r ((ga ps3 r).set (ix (ga l j)) (some (((buN l j r (ix (ga l j))) * (mono 0 1 + mono 1 (-1))) + ((buN l j r ((ix (ga l j)) + 1)) * (mono 0 1)))))).set r ((ga (ps3.set r ((ga ps3 r).set (ix (ga l j)) (some (((buN l j r (ix (ga l j))) * (mono 0 1 + mono 1 (-1))) + ((buN l j r ((ix (ga l j)) + 1)) * (mono 0 1)))))) r).set (ix (ga l j) + 1) (some (((buN l j r (ix (ga l j))) * (mono 1 1)) + ((buN l j r ((ix (ga l j)) + 1)) * Pol.o))))), _, _, ((((((hle71.trans hle98).trans hle100).trans hle102).trans hle121).trans hle123).trans hle125), rfl, hax_.sub ⟨rfl, rfl, rfl, rfl, rfl, rfl, rfl, rfl, rfl, trivial⟩, S191.pick [0, 1, 2] [_, _, _] (by decide) ⟨rfl, rfl, rfl, trivial⟩, ?hq10f0, ?hq10f1, ?hq10f2, ?hq10f3, ?hq10f4, ?hq10f5, ?hq10f6⟩⟩
         case hq10f0 => omega
         case hq10f1 => omega
         case hq10f2 => assumption
         case hq10f3 => simpa using hx3
         case hq10f4 => (intro q hq; rw [len_put _ _ _ _ (by rw [List.length_set]; omega), len_put _ _ _ _ (by omega)]; exact hxl3 q hq)
         case hq10f5 => exact bu_row (by unfold buX; first | (rw [if_pos (by omega), Pol.mul_zero, Pol.zero_add]) | (rw [if_neg (by omega), mono_one, Pol.mul_one])) (by unfold buY; first | (rw [if_pos (by omega), mono_one, Pol.mul_one]) | (rw [if_neg (by omega), Pol.mul_zero, Pol.add_zero])) hps3 (by omega) (by omega) (by omega) (by omega)
         case hq10f6 => exact hTt10
         case hq10m => omega
        ·have hb104 := of_decide_eq_false hb104
         refine ws_exit rfl rfl ?_
         refine nm_blk ?_
         refine nm_sub [(7, _), (68, _), (69, _), (70, _)] ⟨rfl, rfl, rfl, rfl, trivial⟩ ?_
         refine nm_thn ?_
         refine ws_region rfl ?_
         refine wlo 0 1 rfl rfl rfl (wo_run rfl rfl (run_add rfl rfl rfl (by first | omega | (simp only [lens]; omega))) ?_)
         refine wlm 1 2 rfl rfl rfl rfl rfl rfl rfl ?_
         refine wl_end rfl ?_
         refine nm_lp ?_
         intro ax_ hax_
         refine ⟨_, ?hq11m, ⟨j + 1, B2, _, _, ps3, _, _, (((((hle5.trans hle6).trans hle7).trans hle8).trans hle9).trans hle71), rfl, hax_.sub ⟨rfl, rfl, rfl, rfl, trivial⟩, S120.pick [1, 2] [_, _] (by decide) ⟨rfl, rfl, trivial⟩, ?hq11f0, ?hq11f1, ?hq11f2, ?hq11f3, ?hq11f4, ?hq11f5, ?hq11f6⟩⟩
         case hq11f0 => omega
         case hq11f1 => omega
         case hq11f2 => exact hv3
         case hq11f3 => exact hx3
         case hq11f4 => exact hxl3
         case hq11f5 => (intro q hq c hc; rw [hps3 q hq c hc, if_pos (by omega)])
         case hq11f6 => exact hT3
         case hq11m => omega
     ·have hb71 := of_decide_eq_false hb71
      refine ws_exit rfl rfl ?_
      refine nm_sub [(7, _)] ⟨rfl, trivial⟩ ?_
      refine nm_thn ?_
      refine ws_seqN Burau_n97 Burau_n98 rfl rfl rfl ?_
      obtain ⟨M128, hle128, S192, hd3⟩ := S20.pubtab (i := 0) (H' := [_, _]) rfl rfl (by (intro q hq; have := hxl2 q (by omega); show _ * 8 ≤ _; omega))
      clear S20
      replace hl := hl.mono (Hp.un_mono hle128 S192.mx)
      replace hTt1 := hTt1.mono hle128
      replace hT0 := hT0.mono hle128
      replace hT2 := hT2.mono hle128
      obtain ⟨M129, hle129, S193, ⟨A2, c2, e1, hr2⟩⟩ := S192.pubrow (i := 1) (H' := [_, _]) rfl rfl (by show _ * 24 ≤ _; first | omega | (simp only [lens]; omega))
      clear S192; subst e1
      replace hl := hl.mono (Hp.un_mono hle129 S193.mx)
      replace hTt1 := hTt1.mono hle129
      replace hT0 := hT0.mono hle129
      replace hT2 := hT2.mono hle129
      replace hd3 := hd3.mono hle129
      obtain rfl : j = l.length := by omega
      have hgl := hd3.1
      have hgw := hT2.1
      refine ws_region rfl ?_
      refine wla 0 1 rfl rfl rfl rfl rfl rfl rfl ?_
      refine wl_end rfl ?_
      refine nm_thn ?_
      refine ws_seqN Burau_n99 Burau_n100 rfl rfl rfl ?_
      refine ws_seqN Burau_n101 Burau_n102 rfl rfl rfl ?_
      refine ws_region rfl ?_
      refine wlm 0 1 rfl rfl rfl rfl rfl rfl rfl ?_
      refine wlo 1 2 rfl rfl rfl (wo_run rfl rfl (run_len rfl rfl rfl rfl rfl rfl Try.underlying90) ?_)
      refine wl_eq 148 (.int .i64 (m : Int)) rfl (int_eq (by omega)) ?_
      refine wlm 2 3 rfl rfl rfl rfl rfl rfl rfl ?_
      refine wl_end rfl ?_
      refine nm_sub [(18, _), (147, _), (148, _), (149, _)] ⟨rfl, rfl, rfl, rfl, trivial⟩ ?_
      refine nm_thn ?_
      refine ws_blockN Burau_n103 8 rfl rfl rfl ?_
      have S194 := S193.nilrow (cdV 43); clear S193
      refine ws_loopE (fun mx_ ax_ wx_ => ∃ (i2 : Nat) (ov : List SlV) (os : List (List SlV)) (om : List (List (List Tm))) (vro : Value) (M130 : Hp), M129.le M130 ∧ mx_ = m - i2 ∧ Env 171 [(18, vro), (147, .slice A2 vs2.length c2), (148, .int .i64 (m : Int)), (149, .int .i64 (i2 : Int))] ax_ ∧ SH wx_ M130 X [Rs.row (cdV 43) vro ov] ∧ i2 ≤ m ∧ om.length = i2 ∧ (∀ q, q < i2 → (ga om q).length = m ∧ ∀ c, c < m → Can (ga (ga om q) c) ∧ mk (pr (ga (ga om q) c)) = buN l l.length q c) ∧ Rd2 (cdV 22) M130 ov os ∧ RdD cdTm M130 os om) rfl ?_ ?_
      ·intro ax_ hax_
       refine ⟨_, ⟨0, _, ([]), ([]), _, _, Hp.le_refl _, rfl, hax_.sub ⟨rfl, rfl, rfl, rfl, trivial⟩, S194.pick [0] [_] (by decide) ⟨rfl, trivial⟩, ?hq12f0, ?hq12f1, ?hq12f2, ?hq12f3, ?hq12f4⟩⟩
       case hq12f0 => omega
       case hq12f1 => rfl
       case hq12f2 => (intro q hq; omega)
       case hq12f3 => exact Rd2.nil_
       case hq12f4 => exact RdD.nil_
      ·rintro m16 a6 w180 ⟨i2, ov, os, om, vro, M130, hle130, rfl, he6, S195, hi2, hom, homk, ho2, ho3⟩
       clear S194
       refine ws_in he6 (c := Burau_n104) rfl ?_
       clear he6 a6
       replace hl := hl.mono (Hp.un_mono hle130 S195.mx)
       replace hTt1 := hTt1.mono hle130
       replace hT0 := hT0.mono hle130
       replace hT2 := hT2.mono hle130
       replace hd3 := hd3.mono hle130
       replace hr2 := hr2.mono hle130
       have ho21 := ho2.1
       have ho31 := ho3.1
       have hxi2 := hxl2 i2
       refine ws_seqN Burau_n105 Burau_n106 rfl rfl rfl ?_
       refine ws_region rfl ?_
       refine wlo 0 1 rfl rfl rfl (wo_run rfl rfl (run_lss rfl rfl rfl) ?_)
       refine wl_end rfl ?_
       refine nm_thn ?_
       refine ws_seqN Burau_n107 Burau_n108 rfl rfl rfl ?_
       refine ws_condN Burau_n109 Burau_n110 rfl rfl rfl rfl (fun hb150 => ?_) (fun hb150 => ?_)
       ·have hb150 := of_decide_eq_true hb150
        refine ws_skip rfl ?_
        refine nm_sub [(18, _), (147, _), (148, _), (149, _)] ⟨rfl, rfl, rfl, rfl, trivial⟩ ?_
        refine nm_thn ?_
        refine ws_seqN Burau_n111 Burau_n112 rfl rfl rfl ?_
        refine ws_blockN Burau_n113 9 rfl rfl rfl ?_
        refine ws_seqN Burau_n114 Burau_n115 rfl rfl rfl ?_
        refine ws_region rfl ?_
        refine wlo 0 1 rfl rfl rfl (wo_run rfl rfl (run_indexM (C := (cdV 91)) i2 rfl rfl rfl sl90 (by first | rfl | omega) hr2 (by first | omega | (simp only [lens]; omega))) ?_)
        obtain ⟨hn1, hr3⟩ := hd3.2 i2 (by first | omega | (simp only [lens]; omega))
        have rmhr3 : (ga xs2 i2).length * 8 ≤ 140737488355328 := hr3.room
        have hW1 := hT2.2 i2 (by have := hT2.1; have := hd3.1; first | omega | (simp_all; omega))
        have hW1l := hW1.1
        refine wlo 1 2 rfl rfl rfl (wo_run rfl rfl (run_load1 rfl rfl Try.underlying91 rfl (hr2.cell S195.m (i := i2) (by first | omega | (simp only [lens]; omega)) 0 rfl (congrArg (fun n => some (Value.slice _ n _)) hn1))) ?_)
        refine wla 2 3 rfl rfl rfl rfl rfl rfl rfl ?_
        refine wl_end rfl ?_
        refine nm_sub [(18, _), (147, _), (148, _), (149, _), (20, _)] ⟨rfl, rfl, rfl, rfl, rfl, trivial⟩ ?_
        refine nm_thn ?_
        refine ws_seqN Burau_n116 Burau_n117 rfl rfl rfl ?_
        refine ws_region rfl ?_
        refine wla 0 1 rfl rfl rfl rfl rfl rfl rfl ?_
        refine wl_end rfl ?_
        refine nm_thn ?_
        refine ws_seqN Burau_n118 Burau_n119 rfl rfl rfl ?_
        refine ws_seqN Burau_n120 Burau_n121 rfl rfl rfl ?_
        refine ws_region rfl ?_
        refine wlm 0 1 rfl rfl rfl rfl rfl rfl rfl ?_
        refine wlo 1 2 rfl rfl rfl (wo_run rfl rfl (run_len rfl rfl rfl rfl rfl rfl Try.underlying91) ?_)
        refine wl_eq 154 (.int .i64 (m : Int)) rfl (int_eq (by have := hxi2 (by omega); omega)) ?_
        refine wlm 2 3 rfl rfl rfl rfl rfl rfl rfl ?_
        refine wl_end rfl ?_
        refine nm_sub [(18, _), (147, _), (148, _), (149, _), (21, _), (153, _), (154, _), (155, _)] ⟨rfl, rfl, rfl, rfl, rfl, rfl, rfl, rfl, trivial⟩ ?_
        refine nm_thn ?_
        refine ws_blockN Burau_n122 10 rfl rfl rfl ?_
        have S196 := S195.nilrow (cdV 22); clear S195
        refine ws_loopE (fun mx_ ax_ wx_ => ∃ (k2 : Nat) (lv : List SlV) (lx : List (List Tm)) (vrl : Value) (M131 : Hp), M130.le M131 ∧ mx_ = m - k2 ∧ Env 171 [(18, vro), (147, .slice A2 vs2.length c2), (148, .int .i64 (m : Int)), (149, .int .i64 (i2 : Int)), (21, vrl), (153, .slice ((ga vs2 i2).A) (ga xs2 i2).length ((ga vs2 i2).c)), (154, .int .i64 (m : Int)), (155, .int .i64 (k2 : Int))] ax_ ∧ SH wx_ M131 X [Rs.row (cdV 22) vrl lv, Rs.row (cdV 43) vro ov] ∧ k2 ≤ m ∧ lx.length = k2 ∧ (∀ c, c < k2 → Can (ga lx c) ∧ mk (pr (ga lx c)) = buN l l.length i2 c) ∧ Rd2 cdTm M131 lv lx) rfl ?_ ?_
        ·intro ax_ hax_
         refine ⟨_, ⟨0, _, ([]), _, _, Hp.le_refl _, rfl, hax_.sub ⟨rfl, rfl, rfl, rfl, rfl, rfl, rfl, rfl, trivial⟩, S196.pick [0, 1] [_, _] (by decide) ⟨rfl, rfl, trivial⟩, ?hq13f0, ?hq13f1, ?hq13f2, ?hq13f3⟩⟩
         case hq13f0 => omega
         case hq13f1 => rfl
         case hq13f2 => (intro c hc; omega)
         case hq13f3 => exact Rd2.nil_
        ·rintro m17 a7 w181 ⟨k2, lv, lx, vrl, M131, hle131, rfl, he7, S197, hk2, hlx, hlxk, hl2⟩
         clear S196
         refine ws_in he7 (c := Burau_n123) rfl ?_
         clear he7 a7
         replace hl := hl.mono (Hp.un_mono hle131 S197.mx)
         replace hTt1 := hTt1.mono hle131
         replace hT0 := hT0.mono hle131
         replace hT2 := hT2.mono hle131
         replace hd3 := hd3.mono hle131
         replace hr2 := hr2.mono hle131
         replace ho2 := ho2.mono hle131
         replace ho3 := ho3.mono hle131
         replace hr3 := hr3.mono hle131
         replace hW1 := hW1.mono hle131
         have hl21 := hl2.1
         refine ws_seqN Burau_n124 Burau_n125 rfl rfl rfl ?_
         refine ws_region rfl ?_
         refine wlo 0 1 rfl rfl rfl (wo_run rfl rfl (run_lss rfl rfl rfl) ?_)
         refine wl_end rfl ?_
         refine nm_thn ?_
         refine ws_seqN Burau_n126 Burau_n127 rfl rfl rfl ?_
         refine ws_condN Burau_n128 Burau_n129 rfl rfl rfl rfl (fun hb156 => ?_) (fun hb156 => ?_)
         ·have hb156 := of_decide_eq_true hb156
          refine ws_skip rfl ?_
          refine nm_sub [(18, _), (147, _), (148, _), (149, _), (21, _), (153, _), (154, _), (155, _)] ⟨rfl, rfl, rfl, rfl, rfl, rfl, rfl, rfl, trivial⟩ ?_
          refine nm_thn ?_
          refine ws_seqN Burau_n130 Burau_n131 rfl rfl rfl ?_
          refine ws_blockN Burau_n132 11 rfl rfl rfl ?_
          refine ws_seqN Burau_n133 Burau_n134 rfl rfl rfl ?_
          refine ws_region rfl ?_
          refine wlo 0 1 rfl rfl rfl (wo_run rfl rfl (run_indexM (C := (cdMap 84)) k2 rfl rfl rfl sl91 (by first | rfl | omega) hr3 (by first | omega | (simp only [lens]; omega))) ?_)
          obtain ⟨gw17, eg5, hw37⟩ := hW1.get (i := k2) (p := buN l l.length i2 k2) (by first | omega | (simp only [lens]; omega)) (by exact hps2 i2 (by omega) k2 (by omega))
          replace hw37 : Wk _ gw17 B (buN l l.length i2 k2) := hw37
          refine wlo 1 2 rfl rfl rfl (wo_run rfl rfl (run_load1 rfl rfl Try.underlying84 rfl (hr3.cell S197.m (i := k2) (by first | omega | (simp only [lens]; omega)) 0 rfl (congrArg (fun n => some (Value.map n)) eg5))) ?_)
          refine wla 2 3 rfl rfl rfl rfl rfl rfl rfl ?_
          refine wl_end rfl ?_
          refine nm_sub [(18, _), (147, _), (148, _), (149, _), (21, _), (153, _), (154, _), (155, _), (23, _)] ⟨rfl, rfl, rfl, rfl, rfl, rfl, rfl, rfl, rfl, trivial⟩ ?_
          refine nm_thn ?_
          refine ws_region rfl ?_
          refine wlm 0 1 rfl rfl rfl rfl rfl rfl rfl ?_
          refine wlm 1 2 rfl rfl rfl rfl rfl rfl rfl ?_
          refine wlo 2 3 rfl rfl rfl (wo_ct rfl rfl rfl rfl rfl rfl rfl cf61 S197 (FormW_t hw37 (by omega) S197.lend) ?_)
          intro vw182 w182 M132 hle132 S198 hRw182; clear S197
          replace hl := hl.mono (Hp.un_mono hle132 S198.mx)
          replace hTt1 := hTt1.mono hle132
          replace hT0 := hT0.mono hle132
          replace hT2 := hT2.mono hle132
          replace hd3 := hd3.mono hle132
          replace hr2 := hr2.mono hle132
          replace ho2 := ho2.mono hle132
          replace ho3 := ho3.mono hle132
          replace hr3 := hr3.mono hle132
          replace hW1 := hW1.mono hle132
          replace hl2 := hl2.mono hle132
          replace hw37 := hw37.mono hle132
          obtain ⟨A3, c3, l1, rfl, hr4, hcan1, hbd1, hmk1⟩ := hRw182
          refine wlo 3 4 rfl rfl rfl (wo_buildSlice1 (C := (cdV 22)) (l := [_]) rfl rfl rfl rfl sl43 rfl rfl rfl rfl S198 ?_)
          intro gb3 w183 S199; clear S198
          refine wlo 4 5 rfl rfl rfl (wo_append1 (C := (cdV 22)) (i := 1) (q := 0) (⟨A3, l1.length, c3⟩ : SlV) rfl rfl rfl rfl rfl rfl rfl rfl sl43 S199 rfl rfl rfl (by show (_ + 1) * 24 ≤ _; first | omega | (simp only [lens]; omega)) ?_)
          intro vrl1 w184 S200; clear S199
          have S201 := S200.pick [1, 2] [_, _] (by decide) ⟨rfl, rfl, trivial⟩; clear S200
          have hd4 := hl2.snoc (c := c3) hr4
          refine wla 5 6 rfl rfl rfl rfl rfl rfl rfl ?_
          refine wl_end rfl ?_
          refine nm_blk ?_
          refine nm_sub [(18, _), (147, _), (148, _), (149, _), (21, _), (153, _), (154, _), (155, _)] ⟨rfl, rfl, rfl, rfl, rfl, rfl, rfl, rfl, trivial⟩ ?_
          refine nm_thn ?_
          refine ws_region rfl ?_
          refine wlo 0 1 rfl rfl rfl (wo_run rfl rfl (run_add rfl rfl rfl (by first | omega | (simp only [lens]; omega))) ?_)
          refine wlm 1 2 rfl rfl rfl rfl rfl rfl rfl ?_
          refine wl_end rfl ?_
          refine nm_lp ?_
          intro ax_ hax_
          refine ⟨_, ?hq14m, ⟨k2 + 1, _, (lx ++ [l1]), _, _, (hle131.trans hle132), rfl, hax_.sub ⟨rfl, rfl, rfl, rfl, rfl, rfl, rfl, rfl, trivial⟩, S201.pick [0, 1] [_, _] (by decide) ⟨rfl, rfl, trivial⟩, ?hq14f0, ?hq14f1, ?hq14f2, ?hq14f3⟩⟩
          case hq14f0 => omega
          case hq14f1 => (rw [List.length_append, hlx]; rfl)
          case hq14f2 => (intro c hc; by_cases e : c < k2; (rw [ga_append_left _ _ _ (by omega)]; exact hlxk c e); (obtain rfl : c = k2 := (by omega); rw [ga_append_right _ _ _ (by omega), hlx, Nat.sub_self]; exact ⟨hcan1, hmk1⟩))
          case hq14f3 => exact hd4
          case hq14m => omega
         ·have hb156 := of_decide_eq_false hb156
          refine ws_exit rfl rfl ?_
          refine nm_sub [(18, _), (147, _), (148, _), (149, _), (21, _)] ⟨rfl, rfl, rfl, rfl, rfl, trivial⟩ ?_
          refine nm_thn ?_
          refine ws_region rfl ?_
          refine wlm 0 1 rfl rfl rfl rfl rfl rfl rfl ?_
          refine wlm 1 2 rfl rfl rfl rfl rfl rfl rfl ?_
          obtain ⟨M133, hle133, S202, ⟨A4, c4, e2, hr5⟩⟩ := S197.pubrow (i := 0) (H' := [_, _]) rfl rfl (by show _ * 24 ≤ _; first | omega | (simp only [lens]; omega))
          clear S197; subst e2
          replace hl := hl.mono (Hp.un_mono hle133 S202.mx)
          replace hTt1 := hTt1.mono hle133
          replace hT0 := hT0.mono hle133
          replace hT2 := hT2.mono hle133
          replace hd3 := hd3.mono hle133
          replace hr2 := hr2.mono hle133
          replace ho2 := ho2.mono hle133
          replace ho3 := ho3.mono hle133
          replace hr3 := hr3.mono hle133
          replace hW1 := hW1.mono hle133
          replace hl2 := hl2.mono hle133
          refine wlo 2 3 rfl rfl rfl (wo_buildSlice1 (C := (cdV 43)) (l := [_]) rfl rfl rfl rfl sl37 rfl rfl rfl rfl S202 ?_)
          intro gb4 w185 S203; clear S202
          refine wlo 3 4 rfl rfl rfl (wo_append1 (C := (cdV 43)) (i := 2) (q := 0) (⟨A4, lv.length, c4⟩ : SlV) rfl rfl rfl rfl rfl rfl rfl rfl sl37 S203 rfl rfl rfl (by show (_ + 1) * 24 ≤ _; first | omega | (simp only [lens]; omega)) ?_)
          intro vro1 w186 S204; clear S203
          have S205 := S204.pick [1, 2] [_, _] (by decide) ⟨rfl, rfl, trivial⟩; clear S204
          have hd5 := ho2.snoc (c := c4) hr5
          have hd6 := ho3.snoc hl2
          refine wla 4 5 rfl rfl rfl rfl rfl rfl rfl ?_
          refine wl_end rfl ?_
          refine nm_blk ?_
          refine nm_sub [(18, _), (147, _), (148, _), (149, _)] ⟨rfl, rfl, rfl, rfl, trivial⟩ ?_
          refine nm_thn ?_
          refine ws_region rfl ?_
          refine wlo 0 1 rfl rfl rfl (wo_run rfl rfl (run_add rfl rfl rfl (by first | omega | (simp only [lens]; omega))) ?_)
          refine wlm 1 2 rfl rfl rfl rfl rfl rfl rfl ?_
          refine wl_end rfl ?_
          refine nm_lp ?_
          intro ax_ hax_
          refine ⟨_, ?hq15m, ⟨i2 + 1, _, (os ++ [lv]), (om ++ [lx]), _, _, ((hle130.trans hle131).trans hle133), rfl, hax_.sub ⟨rfl, rfl, rfl, rfl, trivial⟩, S205.pick [1] [_] (by decide) ⟨rfl, trivial⟩, ?hq15f0, ?hq15f1, ?hq15f2, ?hq15f3, ?hq15f4⟩⟩
          case hq15f0 => omega
          case hq15f1 => (rw [List.length_append, hom]; rfl)
          case hq15f2 => (intro q hq; by_cases e : q < i2; (rw [ga_append_left _ _ _ (by omega)]; exact homk q e); (obtain rfl : q = i2 := (by omega); rw [ga_append_right _ _ _ (by omega), hom, Nat.sub_self]; exact ⟨by (show lx.length = m; omega), fun c hc => hlxk c (by omega)⟩))
          case hq15f3 => exact hd5
          case hq15f4 => exact hd6
          case hq15m => omega
       ·have hb150 := of_decide_eq_false hb150
        refine ws_exit rfl rfl ?_
        refine nm_sub [(18, _)] ⟨rfl, trivial⟩ ?_
        refine nm_thn ?_
        refine ws_seqN Burau_n135 Burau_n136 rfl rfl rfl ?_
        refine ws_region rfl ?_
        refine wlm 0 1 rfl rfl rfl rfl rfl rfl rfl ?_
        refine wla 1 2 rfl rfl rfl rfl rfl rfl rfl ?_
        refine wla 2 3 rfl rfl rfl rfl rfl rfl rfl ?_
        refine wl_end rfl ?_
        refine nm_sub [(4, _), (5, _)] ⟨rfl, rfl, trivial⟩ ?_
        refine nm_thn ?_
        obtain ⟨M134, hle134, S206, ⟨A5, c5, e3, hr6⟩⟩ := S195.pubrow (i := 0) (H' := [_]) rfl rfl (by show _ * 24 ≤ _; first | omega | (simp only [lens]; omega))
        clear S195; subst e3
        replace hl := hl.mono (Hp.un_mono hle134 S206.mx)
        replace hTt1 := hTt1.mono hle134
        replace hT0 := hT0.mono hle134
        replace hT2 := hT2.mono hle134
        replace hd3 := hd3.mono hle134
        replace hr2 := hr2.mono hle134
        replace ho2 := ho2.mono hle134
        replace ho3 := ho3.mono hle134
        refine ws_ret hC [_, _] rfl rfl ⟨rfl, rfl, trivial⟩ ?_
        refine ⟨_, rfl, _, ((((hle1.trans hle5).trans hle128).trans hle129).trans hle130).trans hle134, (S206.pick [] [] (by decide) trivial), ?_⟩
        obtain rfl : i2 = m := by omega
        refine .inr ⟨hck, _, _, _, _, _, rfl, hr6, ho2, ho3, ?_⟩
        subst hm
        exact ⟨by rw [hom]; omega, fun q hq => ⟨by rw [(homk q (by omega)).1]; omega, fun c hc => (homk q (by omega)).2 c (by omega)⟩⟩
end Go.Proofs.Ytkcighnochjlgaa
