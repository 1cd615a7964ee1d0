/- Walks printed by eng.py. -/
import Derived.Test.YthfiblbkkjcliaaC3
set_option linter.unusedSimpArgs false
set_option linter.unusedVariables false
namespace Go.Proofs.Ythfiblbkkjcliaa
open Go.ChangeShapes Go.WideShapes Go.ChangeAt Go.RowKit
def a4L (x : A4) : List Int := [x.a, x.c, x.b, x.d]
def lkI (q k : Nat) : Int := match q with
  | 0 => -1
  | _ + 1 => k
def lsI (q : Nat) : Int := match q with
  | 0 => 0
  | q + 1 => q
theorem a4_ga {tb : List (List Int)} {t : List A4} (h : tb = t.map a4L) {k : Nat} (hk : k < t.length) : ga tb k = a4L (ga t k) := by rw [h, ga_map _ _ _ hk]
theorem a4_set {tb : List (List Int)} {t : List A4} (h : tb = t.map a4L) {k : Nat} (hk : k < t.length) {y : A4} {r : List Int} (hy : (a4L y) = r) : tb.set k r = (t.set k y).map a4L := by
  rw [h, ← hy, List.map_set]
theorem a4_let0 {tb : List (List Int)} {t : List A4} (h : tb = t.map a4L) {k : Nat} (hk : k < t.length) (u v : Int) :
    (tb.set k ((ga tb k).set 0 u)).set k ((ga (tb.set k ((ga tb k).set 0 u)) k).set 2 v) = (t.set k ⟨u, v, (ga t k).c, (ga t k).d⟩).map a4L := by
  have hl : k < tb.length := by rw [h]; simpa using hk
  rw [ga_set _ _ _ _ hl, if_pos rfl, List.set_set, a4_ga h hk]
  exact a4_set h hk rfl
theorem a4_let1 {tb : List (List Int)} {t : List A4} (h : tb = t.map a4L) {k : Nat} (hk : k < t.length) (u v : Int) :
    (tb.set k ((ga tb k).set 1 u)).set k ((ga (tb.set k ((ga tb k).set 1 u)) k).set 3 v) = (t.set k ⟨(ga t k).a, (ga t k).b, u, v⟩).map a4L := by
  have hl : k < tb.length := by rw [h]; simpa using hk
  rw [ga_set _ _ _ _ hl, if_pos rfl, List.set_set, a4_ga h hk]
  exact a4_set h hk rfl
theorem a4_tie {tb : List (List Int)} {t : List A4} (h : tb = t.map a4L) {k q p x : Nat} (hk : k < t.length) (hq : q = 0 ∨ q = 1) (z : Nat) : tb.set k ((ga tb k).set (2 + q) z) = (tieC ⟨t, p, x, q + 1, k⟩ z).map a4L := by
  rw [a4_ga h hk]
  rcases hq with rfl | rfl
  · exact a4_set h hk rfl
  · exact a4_set h hk rfl
theorem tieC_len (s : CS) (z : Nat) : (tieC s z).length = s.t.length := by
  unfold tieC; split <;> simp

noncomputable def CloseOf_n0 : Code := Try.f17.body.getD .skip
noncomputable def CloseOf_n1 : Code := cL CloseOf_n0
noncomputable def CloseOf_n2 : Code := cR CloseOf_n0
noncomputable def CloseOf_n3 : Code := cL CloseOf_n2
noncomputable def CloseOf_n4 : Code := cR CloseOf_n2
noncomputable def CloseOf_n5 : Code := cL CloseOf_n4
noncomputable def CloseOf_n6 : Code := cR CloseOf_n4
noncomputable def CloseOf_n7 : Code := cL CloseOf_n6
noncomputable def CloseOf_n8 : Code := cR CloseOf_n6
noncomputable def CloseOf_n9 : Code := cL CloseOf_n7
noncomputable def CloseOf_n10 : Code := cR CloseOf_n7
noncomputable def CloseOf_n11 : Code := cL CloseOf_n10
noncomputable def CloseOf_n12 : Code := cL CloseOf_n11
noncomputable def CloseOf_n13 : Code := cL CloseOf_n12
noncomputable def CloseOf_n14 : Code := cR CloseOf_n12
noncomputable def CloseOf_n15 : Code := cL CloseOf_n13
noncomputable def CloseOf_n16 : Code := cR CloseOf_n13
noncomputable def CloseOf_n17 : Code := cL CloseOf_n16
noncomputable def CloseOf_n18 : Code := cR CloseOf_n16
noncomputable def CloseOf_n19 : Code := cL CloseOf_n14
noncomputable def CloseOf_n20 : Code := cR CloseOf_n14
noncomputable def CloseOf_n21 : Code := cL CloseOf_n19
noncomputable def CloseOf_n22 : Code := cL CloseOf_n8
noncomputable def CloseOf_n23 : Code := cR CloseOf_n8
noncomputable def CloseOf_n24 : Code := cL CloseOf_n23
noncomputable def CloseOf_n25 : Code := cR CloseOf_n23
noncomputable def CloseOf_n26 : Code := cL CloseOf_n25
noncomputable def CloseOf_n27 : Code := cR CloseOf_n25
noncomputable def CloseOf_n28 : Code := cL CloseOf_n26
noncomputable def CloseOf_n29 : Code := cR CloseOf_n26
noncomputable def CloseOf_n30 : Code := cL CloseOf_n29
noncomputable def CloseOf_n31 : Code := cL CloseOf_n30
noncomputable def CloseOf_n32 : Code := cL CloseOf_n31
noncomputable def CloseOf_n33 : Code := cR CloseOf_n31
noncomputable def CloseOf_n34 : Code := cL CloseOf_n32
noncomputable def CloseOf_n35 : Code := cR CloseOf_n32
noncomputable def CloseOf_n36 : Code := cL CloseOf_n35
noncomputable def CloseOf_n37 : Code := cR CloseOf_n35
noncomputable def CloseOf_n38 : Code := cL CloseOf_n33
noncomputable def CloseOf_n39 : Code := cR CloseOf_n33
noncomputable def CloseOf_n40 : Code := cL CloseOf_n38
noncomputable def CloseOf_n41 : Code := cL CloseOf_n40
noncomputable def CloseOf_n42 : Code := cR CloseOf_n40
noncomputable def CloseOf_n43 : Code := cL CloseOf_n41
noncomputable def CloseOf_n44 : Code := cR CloseOf_n41
noncomputable def CloseOf_n45 : Code := cL CloseOf_n44
noncomputable def CloseOf_n46 : Code := cR CloseOf_n44
noncomputable def CloseOf_n47 : Code := cL CloseOf_n42
noncomputable def CloseOf_n48 : Code := cR CloseOf_n42
noncomputable def CloseOf_n49 : Code := cL CloseOf_n48
noncomputable def CloseOf_n50 : Code := cR CloseOf_n48
noncomputable def CloseOf_n51 : Code := cL CloseOf_n50
noncomputable def CloseOf_n52 : Code := cR CloseOf_n50
noncomputable def CloseOf_n53 : Code := cL CloseOf_n52
noncomputable def CloseOf_n54 : Code := cR CloseOf_n52
noncomputable def CloseOf_n55 : Code := cL CloseOf_n53
noncomputable def CloseOf_n56 : Code := cL CloseOf_n55
noncomputable def CloseOf_n57 : Code := cL CloseOf_n56
noncomputable def CloseOf_n58 : Code := cR CloseOf_n56
noncomputable def CloseOf_n59 : Code := cL CloseOf_n57
noncomputable def CloseOf_n60 : Code := cR CloseOf_n57
noncomputable def CloseOf_n61 : Code := cL CloseOf_n60
noncomputable def CloseOf_n62 : Code := cR CloseOf_n60
noncomputable def CloseOf_n63 : Code := cL CloseOf_n58
noncomputable def CloseOf_n64 : Code := cL CloseOf_n63
noncomputable def CloseOf_n65 : Code := cR CloseOf_n63
noncomputable def CloseOf_n66 : Code := cL CloseOf_n65
noncomputable def CloseOf_n67 : Code := cR CloseOf_n65
noncomputable def CloseOf_n68 : Code := cL CloseOf_n67
noncomputable def CloseOf_n69 : Code := cL CloseOf_n68
noncomputable def CloseOf_n70 : Code := cL CloseOf_n69
noncomputable def CloseOf_n71 : Code := cR CloseOf_n69
noncomputable def CloseOf_n72 : Code := cL CloseOf_n70
noncomputable def CloseOf_n73 : Code := cR CloseOf_n70
noncomputable def CloseOf_n74 : Code := cL CloseOf_n73
noncomputable def CloseOf_n75 : Code := cR CloseOf_n73
noncomputable def CloseOf_n76 : Code := cL CloseOf_n71
noncomputable def CloseOf_n77 : Code := cR CloseOf_n71
noncomputable def CloseOf_n78 : Code := cL CloseOf_n76
noncomputable def CloseOf_n79 : Code := cL CloseOf_n78
noncomputable def CloseOf_n80 : Code := cR CloseOf_n78
noncomputable def CloseOf_n81 : Code := cL CloseOf_n80
noncomputable def CloseOf_n82 : Code := cR CloseOf_n80
noncomputable def CloseOf_n83 : Code := cL CloseOf_n81
noncomputable def CloseOf_n84 : Code := cR CloseOf_n81
noncomputable def CloseOf_n85 : Code := cL CloseOf_n84
noncomputable def CloseOf_n86 : Code := cR CloseOf_n84
noncomputable def CloseOf_n87 : Code := cL CloseOf_n82
noncomputable def CloseOf_n88 : Code := cR CloseOf_n82
noncomputable def CloseOf_n89 : Code := cL CloseOf_n88
noncomputable def CloseOf_n90 : Code := cR CloseOf_n88
noncomputable def CloseOf_n91 : Code := cL CloseOf_n90
noncomputable def CloseOf_n92 : Code := cR CloseOf_n90
noncomputable def CloseOf_n93 : Code := cL CloseOf_n92
noncomputable def CloseOf_n94 : Code := cR CloseOf_n92
noncomputable def CloseOf_n95 : Code := cL CloseOf_n94
noncomputable def CloseOf_n96 : Code := cR CloseOf_n94
noncomputable def CloseOf_n97 : Code := cL CloseOf_n54
noncomputable def CloseOf_n98 : Code := cR CloseOf_n54
noncomputable def CloseOf_n99 : Code := cL CloseOf_n98
noncomputable def CloseOf_n100 : Code := cR CloseOf_n98
noncomputable def CloseOf_n101 : Code := cL CloseOf_n27
noncomputable def CloseOf_n102 : Code := cR CloseOf_n27
noncomputable def CloseOf_n103 : Code := cL CloseOf_n101
noncomputable def CloseOf_n104 : Code := cR CloseOf_n101
noncomputable def CloseOf_n105 : Code := cL CloseOf_n104
noncomputable def CloseOf_n106 : Code := cL CloseOf_n105
noncomputable def CloseOf_n107 : Code := cL CloseOf_n106
noncomputable def CloseOf_n108 : Code := cR CloseOf_n106
noncomputable def CloseOf_n109 : Code := cL CloseOf_n107
noncomputable def CloseOf_n110 : Code := cR CloseOf_n107
noncomputable def CloseOf_n111 : Code := cL CloseOf_n110
noncomputable def CloseOf_n112 : Code := cR CloseOf_n110
noncomputable def CloseOf_n113 : Code := cL CloseOf_n108
noncomputable def CloseOf_n114 : Code := cR CloseOf_n108
noncomputable def CloseOf_n115 : Code := cL CloseOf_n113
noncomputable def CloseOf_n116 : Code := cL CloseOf_n115
noncomputable def CloseOf_n117 : Code := cR CloseOf_n115
noncomputable def CloseOf_n118 : Code := cL CloseOf_n117
noncomputable def CloseOf_n119 : Code := cR CloseOf_n117
noncomputable def CloseOf_n120 : Code := cL CloseOf_n119
noncomputable def CloseOf_n121 : Code := cR CloseOf_n119
noncomputable def CloseOf_n122 : Code := cL CloseOf_n102
noncomputable def CloseOf_n123 : Code := cR CloseOf_n102
set_option maxRecDepth 10000 in
theorem CloseOf_t {w : World} {M : Hp} {X : Fr} (m : Nat) (l : List Int) {lA : Option Addr} {lc : Nat} (hl : RdA cdInt (M.un X.h) lA lc l) (hm : 2 ≤ m ∧ m ≤ 6) (hln : l.length ≤ 16) (hwb : ∀ i, i < l.length → 1 ≤ max (ga l i) (-(ga l i)) ∧ max (ga l i) (-(ga l i)) < (m : Int)) (S : SH w M X []) : Ct Try.prog 17 [.int .i64 (m : Int), .slice lA l.length lc] w M X (DgO (closeD m l)) := by
  unfold Ct
  have rmhl : l.length * 8 ≤ 140737488355328 := hl.room
  refine calls_in (b := CloseOf_n0) Try.func17 rfl Try.ntmps17 rfl (fun C hC => ?_)
  refine ws_sub [(0, _), (1, _)] ⟨rfl, rfl, trivial⟩ ?_
  refine ws_seqN CloseOf_n1 CloseOf_n2 rfl rfl rfl ?_
  refine ws_region rfl ?_
  refine wl_op (k := 0) (k' := 1) rfl rfl rfl (wo_alloc (l := [_, _]) rfl rfl rfl zr38 rfl S ?_)
  intro gb1 w1 S1; clear S
  refine wl_end rfl ?_
  refine nm_thn ?_
  refine ws_seqN CloseOf_n3 CloseOf_n4 rfl rfl rfl ?_
  refine ws_region rfl ?_
  refine wl_op (k := 0) (k' := 1) rfl rfl rfl (wo_alloc (l := [_, _]) rfl rfl rfl zr38 rfl S1 ?_)
  intro gb2 w2 S2; clear S1
  refine wl_end rfl ?_
  refine nm_thn ?_
  refine ws_seqN CloseOf_n5 CloseOf_n6 rfl rfl rfl ?_
  refine ws_region rfl ?_
  refine wl_op (k := 0) (k' := 1) rfl rfl rfl (wo_run rfl rfl (run_move rfl rfl) ?_)
  refine wl_op (k := 1) (k' := 2) rfl rfl rfl (wo_run rfl rfl (run_len rfl rfl rfl rfl rfl rfl Try.underlying22) ?_)
  refine wl_op (k := 2) (k' := 3) rfl rfl rfl (wo_make (C := (cdV 22)) l.length rfl rfl rfl rfl rfl sl27 (by first | rfl | omega) (by show _ * 24 ≤ _; first | omega | (simp only [List.length_set, List.length_append, List.length_replicate, List.length_singleton, List.length_cons, List.length_nil]; omega)) S2 ?_)
  intro vr1 w3 S3; clear S2
  have S4 := S3.newtab cdInt l.length; clear S3
  refine wl_op (k := 3) (k' := 4) rfl rfl rfl (wo_run rfl rfl (run_assign rfl rfl) ?_)
  refine wl_end rfl ?_
  refine nm_sub [(0, _), (1, _), (4, _), (5, _), (6, _)] ⟨rfl, rfl, rfl, rfl, rfl, trivial⟩ ?_
  refine nm_thn ?_
  refine ws_seqN CloseOf_n7 CloseOf_n8 rfl rfl rfl ?_
  refine ws_seqN CloseOf_n9 CloseOf_n10 rfl rfl rfl ?_
  refine ws_region rfl ?_
  refine wl_op (k := 0) (k' := 1) rfl rfl rfl (wo_run rfl rfl (run_assign rfl rfl) ?_)
  refine wl_end rfl ?_
  refine nm_thn ?_
  refine ws_blockN CloseOf_n11 0 rfl rfl rfl ?_
  refine ws_loopE (fun mx_ ax_ wx_ => ∃ (k0 : Nat) (vs : List SlV) (tb0 : List (List Int)) (vri : Value), mx_ = l.length - k0 ∧ Env 170 [(0, .int .i64 (m : Int)), (1, .slice lA l.length lc), (4, .pointer (some ⟨gb1, 0, none⟩)), (5, .pointer (some ⟨gb2, 0, none⟩)), (6, vri), (7, .int .i64 (k0 : Int))] ax_ ∧ SH wx_ M X [Rs.tab cdInt vs tb0, Rs.row (cdV 22) vri vs, Rs.box gb2 38 [.slice none 0 0, .int .i64 0], Rs.box gb1 38 [.slice none 0 0, .int .i64 0]] ∧ k0 ≤ l.length ∧ vs.length = l.length ∧ tb0.length = l.length ∧ (∀ j, j < k0 → ga tb0 j = [0, 0, 0, 0])) rfl ?_ ?_
  · intro ax_ hax_
    refine ⟨_, ⟨0, _, _, _, rfl, hax_.sub ⟨rfl, rfl, rfl, rfl, rfl, rfl, trivial⟩, S4.pick [0, 1, 2, 3] [_, _, _, _] (by decide) ⟨rfl, rfl, rfl, rfl, trivial⟩, ?hq1f0, ?hq1f1, ?hq1f2, ?hq1f3⟩⟩
    case hq1f0 => omega
    case hq1f1 => simp
    case hq1f2 => simp
    case hq1f3 => (intro j hj; omega)
  · rintro m1 a1 w4 ⟨k0, vs, tb0, vri, rfl, he1, S5, hk0, hvl, htb0, hz0⟩
    clear S4
    refine ws_in he1 (c := CloseOf_n12) rfl ?_
    clear he1 a1
    refine ws_seqN CloseOf_n13 CloseOf_n14 rfl rfl rfl ?_
    refine ws_seqN CloseOf_n15 CloseOf_n16 rfl rfl rfl ?_
    refine ws_region rfl ?_
    refine wl_op (k := 0) (k' := 1) rfl rfl rfl (wo_run rfl rfl (run_move rfl rfl) ?_)
    refine wl_op (k := 1) (k' := 2) rfl rfl rfl (wo_run rfl rfl (run_move rfl rfl) ?_)
    refine wl_op (k := 2) (k' := 3) rfl rfl rfl (wo_run rfl rfl (run_len rfl rfl rfl rfl rfl rfl Try.underlying22) ?_)
    refine wl_op (k := 3) (k' := 4) rfl rfl rfl (wo_run rfl rfl (run_lss rfl rfl rfl) ?_)
    refine wl_end rfl ?_
    refine nm_sub [(0, _), (1, _), (4, _), (5, _), (6, _), (7, _), (26, _)] ⟨rfl, rfl, rfl, rfl, rfl, rfl, rfl, trivial⟩ ?_
    refine nm_thn ?_
    refine ws_condN CloseOf_n17 CloseOf_n18 rfl rfl rfl rfl (fun hb26 => ?_) (fun hb26 => ?_)
    · have hb26 := of_decide_eq_true hb26
      refine ws_skip rfl ?_
      refine nm_sub [(0, _), (1, _), (4, _), (5, _), (6, _), (7, _)] ⟨rfl, rfl, rfl, rfl, rfl, rfl, trivial⟩ ?_
      refine nm_thn ?_
      refine ws_seqN CloseOf_n19 CloseOf_n20 rfl rfl rfl ?_
      refine ws_blockN CloseOf_n21 1 rfl rfl rfl ?_
      refine ws_region rfl ?_
      refine wl_op (k := 0) (k' := 1) rfl rfl rfl (wo_run rfl rfl (run_move rfl rfl) ?_)
      refine wl_op (k := 1) (k' := 2) rfl rfl rfl (wo_run rfl rfl (run_move rfl rfl) ?_)
      refine wl_op (k := 2) (k' := 3) rfl rfl rfl (wo_buildSliceN (C := cdInt) (l := [_, _, _, _]) (pl := [(0, 1), (1, 1), (2, 1), (3, 1)]) rfl rfl rfl rfl sl22 rfl rfl rfl rfl rfl S5 ?_)
      intro gb3 w6 S7; clear S5
      refine wl_op (k := 3) (k' := 4) rfl rfl rfl (wo_run rfl rfl (run_indexR (C := (cdV 22)) (i := 2) k0 rfl rfl rfl sl27 S7 rfl (by first | rfl | omega) (by first | omega | (simp only [List.length_set, List.length_append, List.length_replicate, List.length_singleton, List.length_cons, List.length_nil]; omega))) ?_)
      have S9 := S7.boxrow (C := cdInt) [0, 0, 0, 0] (i := 0) (H' := [_, _, _, _, _]) rfl rfl (by simp) rfl; clear S7
      have S10 := S9.tabput (C := cdInt) (zs := ([0, 0, 0, 0])) (i := 1) (q := 0) (H' := [_, _, _, _, _]) k0 rfl rfl (by decide) (by first | omega | (simp only [List.length_set, List.length_append, List.length_replicate, List.length_singleton, List.length_cons, List.length_nil]; omega) | (rw [ga_set _ _ _ _ (by first | omega | (simp only [List.length_set]; omega)), if_pos rfl]; simp only [List.length_set]; omega)) rfl; clear S9
      refine wl_op (k := 4) (k' := 5) rfl rfl rfl (wo_storeR (C := (cdV 22)) (i := 2) (e := k0) (j := 0) (us := [_]) (H' := [_, _, _, _, _]) (⟨(some ⟨gb3, 0, none⟩), ([0, 0, 0, 0]).length, ([0, 0, 0, 0]).length⟩ : SlV) rfl rfl S10 rfl (by first | omega | (simp only [List.length_set, List.length_append, List.length_replicate, List.length_singleton, List.length_cons, List.length_nil]; omega)) rfl rfl rfl sz22 rfl rfl rfl rfl ?_)
      intro w8 S11; clear S10
      refine wl_end rfl ?_
      refine nm_blk ?_
      refine nm_sub [(0, _), (1, _), (4, _), (5, _), (6, _), (7, _)] ⟨rfl, rfl, rfl, rfl, rfl, rfl, trivial⟩ ?_
      refine nm_thn ?_
      refine ws_region rfl ?_
      refine wl_op (k := 0) (k' := 1) rfl rfl rfl (wo_run rfl rfl (run_move rfl rfl) ?_)
      refine wl_op (k := 1) (k' := 2) rfl rfl rfl (wo_run rfl rfl (run_add rfl rfl rfl (by first | omega | (simp only [List.length_set, List.length_append, List.length_replicate, List.length_singleton, List.length_cons, List.length_nil]; omega))) ?_)
      refine wl_op (k := 2) (k' := 3) rfl rfl rfl (wo_run rfl rfl (run_assign rfl rfl) ?_)
      refine wl_end rfl ?_
      refine nm_lp ?_
      intro ax_ hax_
      refine ⟨_, ?hq2m, ⟨k0 + 1, _, _, _, rfl, hax_.sub ⟨rfl, rfl, rfl, rfl, rfl, rfl, trivial⟩, S11.pick [1, 2, 3, 4] [_, _, _, _] (by decide) ⟨rfl, rfl, rfl, rfl, trivial⟩, ?hq2f0, ?hq2f1, ?hq2f2, ?hq2f3⟩⟩
      case hq2f0 => first | assumption | omega
      case hq2f1 => simpa using hvl
      case hq2f2 => simpa using htb0
      case hq2f3 => (intro j h1; rw [ga_set _ _ _ _ (by omega)]; split; (rfl); exact hz0 j (by omega))
      case hq2m => omega
    · have hb26 := of_decide_eq_false hb26
      refine ws_exit rfl rfl ?_
      refine nm_sub [(0, _), (1, _), (4, _), (5, _), (6, _)] ⟨rfl, rfl, rfl, rfl, rfl, trivial⟩ ?_
      refine nm_thn ?_
      refine ws_seqN CloseOf_n22 CloseOf_n23 rfl rfl rfl ?_
      refine ws_region rfl ?_
      refine wl_op (k := 0) (k' := 1) rfl rfl rfl (wo_run rfl rfl (run_move rfl rfl) ?_)
      refine wl_op (k := 1) (k' := 2) rfl rfl rfl (wo_run rfl rfl (run_add rfl rfl rfl (by first | omega | (simp only [List.length_set, List.length_append, List.length_replicate, List.length_singleton, List.length_cons, List.length_nil]; omega))) ?_)
      refine wl_op (k := 2) (k' := 3) rfl rfl rfl (wo_make (C := cdBool) (m + 1) rfl rfl rfl rfl rfl sl58 (by first | rfl | omega) (by show _ * 1 ≤ _; first | omega | (simp only [List.length_set, List.length_append, List.length_replicate, List.length_singleton, List.length_cons, List.length_nil]; omega)) S5 ?_)
      intro vr2 w9 S12; clear S5
      refine wl_op (k := 3) (k' := 4) rfl rfl rfl (wo_run rfl rfl (run_assign rfl rfl) ?_)
      refine wl_end rfl ?_
      refine nm_sub [(0, _), (1, _), (4, _), (5, _), (6, _), (8, _)] ⟨rfl, rfl, rfl, rfl, rfl, rfl, trivial⟩ ?_
      refine nm_thn ?_
      refine ws_seqN CloseOf_n24 CloseOf_n25 rfl rfl rfl ?_
      refine ws_region rfl ?_
      refine wl_op (k := 0) (k' := 1) rfl rfl rfl (wo_run rfl rfl (run_assign rfl rfl) ?_)
      refine wl_end rfl ?_
      refine nm_thn ?_
      refine ws_seqN CloseOf_n26 CloseOf_n27 rfl rfl rfl ?_
      refine ws_seqN CloseOf_n28 CloseOf_n29 rfl rfl rfl ?_
      refine ws_region rfl ?_
      refine wl_op (k := 0) (k' := 1) rfl rfl rfl (wo_run rfl rfl (run_assign rfl rfl) ?_)
      refine wl_end rfl ?_
      refine nm_thn ?_
      refine ws_blockN CloseOf_n30 2 rfl rfl rfl ?_
      refine ws_loopE (fun mx_ ax_ wx_ => ∃ (p0 : Nat) (wk : List Bool) (tb : List (List Int)) (t : List A4) (xa : Nat) (lp : Int) (vrw : Value), mx_ = m - p0 ∧ Env 170 [(0, .int .i64 (m : Int)), (1, .slice lA l.length lc), (4, .pointer (some ⟨gb1, 0, none⟩)), (5, .pointer (some ⟨gb2, 0, none⟩)), (6, vri), (8, vrw), (9, .int .i64 (xa : Int)), (10, .int .i64 ((p0 : Int) + 1))] ax_ ∧ SH wx_ M X [Rs.row cdBool vrw wk, Rs.tab cdInt vs tb, Rs.row (cdV 22) vri vs, Rs.box gb2 38 [.slice none 0 0, .int .i64 lp], Rs.box gb1 38 [.slice none 0 0, .int .i64 0]] ∧ p0 ≤ m ∧ closeF l m p0 = ⟨wk, t, xa + 1, lp⟩ ∧ wk.length = m + 1 ∧ t.length = l.length ∧ xa + 20 * free wk ≤ 300 ∧ (0 ≤ lp ∧ lp ≤ p0) ∧ tb = t.map a4L) rfl ?_ ?_
      · intro ax_ hax_
        refine ⟨_, ⟨0, _, _, (List.replicate l.length ⟨0, 0, 0, 0⟩), 0, 0, _, rfl, hax_.sub ⟨rfl, rfl, rfl, rfl, rfl, rfl, rfl, rfl, trivial⟩, S12.pick [0, 1, 2, 3, 4] [_, _, _, _, _] (by decide) ⟨rfl, rfl, rfl, rfl, rfl, trivial⟩, ?hq3f0, ?hq3f1, ?hq3f2, ?hq3f3, ?hq3f4, ?hq3f5, ?hq3f6⟩⟩
        case hq3f0 => omega
        case hq3f1 => rfl
        case hq3f2 => simp
        case hq3f3 => simp
        case hq3f4 => (have h9 : free (List.replicate (m + 1) cdBool.z) = m + 1 := free_rep _; omega)
        case hq3f5 => omega
        case hq3f6 => (refine ga_ext (by simp; omega) fun i hi => ?_; rw [hz0 i (by omega), ga_map _ _ _ (by simp; omega), ga_rep _ _ _ (by omega)]; rfl)
      · rintro m2 a2 w10 ⟨p0, wk, tb, t, xa, lp, vrw, rfl, he2, S13, hp0, hcl, hwkl, htl, hx, hlp, htb⟩
        clear S12
        refine ws_in he2 (c := CloseOf_n31) rfl ?_
        clear he2 a2
        refine ws_seqN CloseOf_n32 CloseOf_n33 rfl rfl rfl ?_
        refine ws_seqN CloseOf_n34 CloseOf_n35 rfl rfl rfl ?_
        refine ws_region rfl ?_
        refine wl_op (k := 0) (k' := 1) rfl rfl rfl (wo_run rfl rfl (run_move rfl rfl) ?_)
        refine wl_op (k := 1) (k' := 2) rfl rfl rfl (wo_run rfl rfl (run_move rfl rfl) ?_)
        refine wl_op (k := 2) (k' := 3) rfl rfl rfl (wo_run rfl rfl (run_leq rfl rfl rfl) ?_)
        refine wl_end rfl ?_
        refine nm_sub [(0, _), (1, _), (4, _), (5, _), (6, _), (8, _), (9, _), (10, _), (38, _)] ⟨rfl, rfl, rfl, rfl, rfl, rfl, rfl, rfl, rfl, trivial⟩ ?_
        refine nm_thn ?_
        refine ws_condN CloseOf_n36 CloseOf_n37 rfl rfl rfl rfl (fun hb38 => ?_) (fun hb38 => ?_)
        · have hb38 := of_decide_eq_true hb38
          refine ws_skip rfl ?_
          refine nm_sub [(0, _), (1, _), (4, _), (5, _), (6, _), (8, _), (9, _), (10, _)] ⟨rfl, rfl, rfl, rfl, rfl, rfl, rfl, rfl, trivial⟩ ?_
          refine nm_thn ?_
          refine ws_seqN CloseOf_n38 CloseOf_n39 rfl rfl rfl ?_
          refine ws_blockN CloseOf_n40 3 rfl rfl rfl ?_
          refine ws_seqN CloseOf_n41 CloseOf_n42 rfl rfl rfl ?_
          refine ws_seqN CloseOf_n43 CloseOf_n44 rfl rfl rfl ?_
          refine ws_region rfl ?_
          refine wl_op (k := 0) (k' := 1) rfl rfl rfl (wo_run rfl rfl (run_move rfl rfl) ?_)
          refine wl_op (k := 1) (k' := 2) rfl rfl rfl (wo_run rfl rfl (run_move rfl rfl) ?_)
          refine wl_op (k := 2) (k' := 3) rfl rfl rfl (wo_run rfl rfl (run_indexR (C := cdBool) (i := 0) (p0 + 1) rfl rfl rfl sl58 S13 rfl (by first | rfl | omega) (by first | omega | (simp only [List.length_set, List.length_append, List.length_replicate, List.length_singleton, List.length_cons, List.length_nil]; omega))) ?_)
          refine wl_op (k := 3) (k' := 4) rfl rfl rfl (wo_run rfl rfl (run_load1 rfl rfl Try.underlying4 rfl (S13.rowc (i := 0) (e := p0 + 1) (j := 0) rfl (by first | omega | (simp only [List.length_set, List.length_append, List.length_replicate, List.length_singleton, List.length_cons, List.length_nil]; omega)) rfl rfl)) ?_)
          refine wl_end rfl ?_
          refine nm_sub [(0, _), (1, _), (4, _), (5, _), (6, _), (8, _), (9, _), (10, _), (44, _)] ⟨rfl, rfl, rfl, rfl, rfl, rfl, rfl, rfl, rfl, trivial⟩ ?_
          refine nm_thn ?_
          refine ws_condN CloseOf_n45 CloseOf_n46 rfl rfl rfl rfl (fun hb44 => ?_) (fun hb44 => ?_)
          · refine ws_exit rfl rfl ?_
            refine nm_sub [(0, _), (1, _), (4, _), (5, _), (6, _), (8, _), (9, _), (10, _)] ⟨rfl, rfl, rfl, rfl, rfl, rfl, rfl, rfl, trivial⟩ ?_
            refine nm_thn ?_
            refine ws_region rfl ?_
            refine wl_op (k := 0) (k' := 1) rfl rfl rfl (wo_run rfl rfl (run_move rfl rfl) ?_)
            refine wl_op (k := 1) (k' := 2) rfl rfl rfl (wo_run rfl rfl (run_add rfl rfl rfl (by first | omega | (simp only [List.length_set, List.length_append, List.length_replicate, List.length_singleton, List.length_cons, List.length_nil]; omega))) ?_)
            refine wl_op (k := 2) (k' := 3) rfl rfl rfl (wo_run rfl rfl (run_assign rfl rfl) ?_)
            refine wl_end rfl ?_
            refine nm_lp ?_
            have hcl9 := closeF_skip hcl hb44
            intro ax_ hax_
            refine ⟨_, ?hq4m, ⟨p0 + 1, wk, tb, t, xa, lp, _, rfl, hax_.sub ⟨rfl, rfl, rfl, rfl, rfl, rfl, rfl, rfl, trivial⟩, S13.pick [0, 1, 2, 3, 4] [_, _, _, _, _] (by decide) ⟨rfl, rfl, rfl, rfl, rfl, trivial⟩, ?hq4f0, ?hq4f1, ?hq4f2, ?hq4f3, ?hq4f4, ?hq4f5, ?hq4f6⟩⟩
            case hq4f0 => omega
            case hq4f1 => first | exact hcl9 | (rw [hcl9]; simp; done) | (rw [hcl9]; simp; rfl)
            case hq4f2 => assumption
            case hq4f3 => first | assumption | (rw [tieC_len]; assumption)
            case hq4f4 => omega
            case hq4f5 => omega
            case hq4f6 => first | assumption | exact a4_tie htb1 (by omega) hqq (xa + 1)
            case hq4m => omega
          · refine ws_skip rfl ?_
            refine nm_sub [(0, _), (1, _), (4, _), (5, _), (6, _), (8, _), (9, _), (10, _)] ⟨rfl, rfl, rfl, rfl, rfl, rfl, rfl, rfl, trivial⟩ ?_
            refine nm_thn ?_
            refine ws_seqN CloseOf_n47 CloseOf_n48 rfl rfl rfl ?_
            refine ws_region rfl ?_
            refine wl_op (k := 0) (k' := 1) rfl rfl rfl (wo_run rfl rfl (run_move rfl rfl) ?_)
            refine wl_op (k := 1) (k' := 2) rfl rfl rfl (wo_run rfl rfl (run_add rfl rfl rfl (by first | omega | (simp only [List.length_set, List.length_append, List.length_replicate, List.length_singleton, List.length_cons, List.length_nil]; omega))) ?_)
            refine wl_op (k := 2) (k' := 3) rfl rfl rfl (wo_run rfl rfl (run_assign rfl rfl) ?_)
            refine wl_end rfl ?_
            refine nm_sub [(0, _), (1, _), (4, _), (5, _), (6, _), (8, _), (9, _), (10, _), (11, _)] ⟨rfl, rfl, rfl, rfl, rfl, rfl, rfl, rfl, rfl, trivial⟩ ?_
            refine nm_thn ?_
            refine ws_seqN CloseOf_n49 CloseOf_n50 rfl rfl rfl ?_
            refine ws_region rfl ?_
            refine wl_op (k := 0) (k' := 1) rfl rfl rfl (wo_run rfl rfl (run_assign rfl rfl) ?_)
            refine wl_op (k := 1) (k' := 2) rfl rfl rfl (wo_run rfl rfl (run_assign rfl rfl) ?_)
            refine wl_end rfl ?_
            refine nm_thn ?_
            refine ws_seqN CloseOf_n51 CloseOf_n52 rfl rfl rfl ?_
            refine ws_region rfl ?_
            refine wl_op (k := 0) (k' := 1) rfl rfl rfl (wo_run rfl rfl (run_move rfl rfl) ?_)
            refine wl_op (k := 1) (k' := 2) rfl rfl rfl (wo_run rfl rfl (run_assign rfl rfl) ?_)
            refine wl_end rfl ?_
            refine nm_sub [(0, _), (1, _), (4, _), (5, _), (6, _), (8, _), (9, _), (10, _), (11, _), (12, _), (13, _), (14, _)] ⟨rfl, rfl, rfl, rfl, rfl, rfl, rfl, rfl, rfl, rfl, rfl, rfl, trivial⟩ ?_
            refine nm_thn ?_
            refine ws_seqN CloseOf_n53 CloseOf_n54 rfl rfl rfl ?_
            refine ws_blockN CloseOf_n55 4 rfl rfl rfl ?_
            refine ws_loopE (fun mx_ ax_ wx_ => ∃ (wk1 : List Bool) (tb1 : List (List Int)) (t1 : List A4) (p1 : Nat) (xa1 : Nat) (q1 : Nat) (lk1 : Nat) (vrw1 : Value), mx_ = free wk1 ∧ Env 170 [(0, .int .i64 (m : Int)), (1, .slice lA l.length lc), (4, .pointer (some ⟨gb1, 0, none⟩)), (5, .pointer (some ⟨gb2, 0, none⟩)), (6, vri), (8, vrw1), (9, .int .i64 (xa1 : Int)), (10, .int .i64 ((p0 : Int) + 1)), (11, .int .i64 ((xa : Int) + 1)), (12, .int .i64 (lkI q1 lk1)), (13, .int .i64 (lsI q1)), (14, .int .i64 (p1 : Int))] ax_ ∧ SH wx_ M X [Rs.row cdBool vrw1 wk1, Rs.tab cdInt vs tb1, Rs.row (cdV 22) vri vs, Rs.box gb2 38 [.slice none 0 0, .int .i64 lp], Rs.box gb1 38 [.slice none 0 0, .int .i64 0]] ∧ ringC l wk ⟨t, p0 + 1, xa + 1, 0, 0⟩ = ringC l wk1 ⟨t1, p1, xa1 + 1, q1, lk1⟩ ∧ wk1.length = m + 1 ∧ t1.length = l.length ∧ (1 ≤ p1 ∧ p1 ≤ m) ∧ xa1 + 20 * free wk1 ≤ 300 ∧ (q1 = 0 ∨ q1 = 1 ∨ q1 = 2) ∧ (q1 ≠ 0 → lk1 < l.length) ∧ tb1 = t1.map a4L) rfl ?_ ?_
            · intro ax_ hax_
              refine ⟨_, ⟨wk, tb, t, p0 + 1, xa, 0, 0, _, rfl, hax_.sub ⟨rfl, rfl, rfl, rfl, rfl, rfl, rfl, rfl, rfl, rfl, rfl, rfl, trivial⟩, S13.pick [0, 1, 2, 3, 4] [_, _, _, _, _] (by decide) ⟨rfl, rfl, rfl, rfl, rfl, trivial⟩, ?hq5f0, ?hq5f1, ?hq5f2, ?hq5f3, ?hq5f4, ?hq5f5, ?hq5f6, ?hq5f7⟩⟩
              case hq5f0 => rfl
              case hq5f1 => assumption
              case hq5f2 => assumption
              case hq5f3 => omega
              case hq5f4 => omega
              case hq5f5 => omega
              case hq5f6 => omega
              case hq5f7 => assumption
            · rintro m3 a3 w11 ⟨wk1, tb1, t1, p1, xa1, q1, lk1, vrw1, rfl, he3, S14, hrg, hwkl1, htl1, hp1, hx1, hlq1, hlk1, htb1⟩
              clear S13
              refine ws_in he3 (c := CloseOf_n56) rfl ?_
              clear he3 a3
              refine ws_seqN CloseOf_n57 CloseOf_n58 rfl rfl rfl ?_
              refine ws_seqN CloseOf_n59 CloseOf_n60 rfl rfl rfl ?_
              refine ws_region rfl ?_
              refine wl_op (k := 0) (k' := 1) rfl rfl rfl (wo_run rfl rfl (run_move rfl rfl) ?_)
              refine wl_op (k := 1) (k' := 2) rfl rfl rfl (wo_run rfl rfl (run_move rfl rfl) ?_)
              refine wl_op (k := 2) (k' := 3) rfl rfl rfl (wo_run rfl rfl (run_indexR (C := cdBool) (i := 0) p1 rfl rfl rfl sl58 S14 rfl (by first | rfl | omega) (by first | omega | (simp only [List.length_set, List.length_append, List.length_replicate, List.length_singleton, List.length_cons, List.length_nil]; omega))) ?_)
              refine wl_op (k := 3) (k' := 4) rfl rfl rfl (wo_run rfl rfl (run_load1 rfl rfl Try.underlying4 rfl (S14.rowc (i := 0) (e := p1) (j := 0) rfl (by first | omega | (simp only [List.length_set, List.length_append, List.length_replicate, List.length_singleton, List.length_cons, List.length_nil]; omega)) rfl rfl)) ?_)
              refine wl_op (k := 4) (k' := 5) rfl rfl rfl (wo_run rfl rfl (run_not rfl rfl) ?_)
              refine wl_end rfl ?_
              refine nm_sub [(0, _), (1, _), (4, _), (5, _), (6, _), (8, _), (9, _), (10, _), (11, _), (12, _), (13, _), (14, _), (52, _)] ⟨rfl, rfl, rfl, rfl, rfl, rfl, rfl, rfl, rfl, rfl, rfl, rfl, rfl, trivial⟩ ?_
              refine nm_thn ?_
              refine ws_condN CloseOf_n61 CloseOf_n62 rfl rfl rfl rfl (fun hb52 => ?_) (fun hb52 => ?_)
              · simp only [Bool.and_eq_true, Bool.or_eq_true, Bool.and_eq_false_iff, Bool.or_eq_false_iff, decide_eq_true_eq, decide_eq_false_iff_not, Bool.not_eq_true', Bool.not_eq_false'] at hb52
                refine ws_skip rfl ?_
                refine nm_sub [(0, _), (1, _), (4, _), (5, _), (6, _), (8, _), (9, _), (10, _), (11, _), (12, _), (13, _), (14, _)] ⟨rfl, rfl, rfl, rfl, rfl, rfl, rfl, rfl, rfl, rfl, rfl, rfl, trivial⟩ ?_
                refine nm_thn ?_
                refine ws_blockN CloseOf_n63 5 rfl rfl rfl ?_
                refine ws_seqN CloseOf_n64 CloseOf_n65 rfl rfl rfl ?_
                refine ws_region rfl ?_
                refine wl_op (k := 0) (k' := 1) rfl rfl rfl (wo_run rfl rfl (run_move rfl rfl) ?_)
                refine wl_op (k := 1) (k' := 2) rfl rfl rfl (wo_run rfl rfl (run_move rfl rfl) ?_)
                refine wl_op (k := 2) (k' := 3) rfl rfl rfl (wo_run rfl rfl (run_indexR (C := cdBool) (i := 0) p1 rfl rfl rfl sl58 S14 rfl (by first | rfl | omega) (by first | omega | (simp only [List.length_set, List.length_append, List.length_replicate, List.length_singleton, List.length_cons, List.length_nil]; omega))) ?_)
                refine wl_op (k := 3) (k' := 4) rfl rfl rfl (wo_storeR (C := cdBool) (i := 0) (e := p1) (j := 0) (us := [_]) (H' := [_, _, _, _, _]) true rfl rfl S14 rfl (by first | omega | (simp only [List.length_set, List.length_append, List.length_replicate, List.length_singleton, List.length_cons, List.length_nil]; omega)) rfl rfl rfl sz4 rfl rfl rfl rfl ?_)
                intro w12 S15; clear S14
                refine wl_end rfl ?_
                refine nm_sub [(0, _), (1, _), (4, _), (5, _), (6, _), (8, _), (9, _), (10, _), (11, _), (12, _), (13, _), (14, _)] ⟨rfl, rfl, rfl, rfl, rfl, rfl, rfl, rfl, rfl, rfl, rfl, rfl, trivial⟩ ?_
                refine nm_thn ?_
                refine ws_seqN CloseOf_n66 CloseOf_n67 rfl rfl rfl ?_
                refine ws_region rfl ?_
                refine wl_op (k := 0) (k' := 1) rfl rfl rfl (wo_run rfl rfl (run_assign rfl rfl) ?_)
                refine wl_end rfl ?_
                refine nm_thn ?_
                refine ws_blockN CloseOf_n68 6 rfl rfl rfl ?_
                refine ws_loopE (fun mx_ ax_ wx_ => ∃ (k2 : Nat) (tb2 : List (List Int)) (t2 : List A4) (p2 : Nat) (xa2 : Nat) (q2 : Nat) (lk2 : Nat), mx_ = l.length - k2 ∧ Env 170 [(0, .int .i64 (m : Int)), (1, .slice lA l.length lc), (4, .pointer (some ⟨gb1, 0, none⟩)), (5, .pointer (some ⟨gb2, 0, none⟩)), (6, vri), (8, vrw1), (9, .int .i64 (xa2 : Int)), (10, .int .i64 ((p0 : Int) + 1)), (11, .int .i64 ((xa : Int) + 1)), (12, .int .i64 (lkI q2 lk2)), (13, .int .i64 (lsI q2)), (14, .int .i64 (p2 : Int)), (15, .int .i64 (k2 : Int))] ax_ ∧ SH wx_ M X [Rs.row cdBool vrw1 (wk1.set p1 true), Rs.tab cdInt vs tb2, Rs.row (cdV 22) vri vs, Rs.box gb2 38 [.slice none 0 0, .int .i64 lp], Rs.box gb1 38 [.slice none 0 0, .int .i64 0]] ∧ k2 ≤ l.length ∧ wordC l ⟨t1, p1, xa1 + 1, q1, lk1⟩ k2 = ⟨t2, p2, xa2 + 1, q2, lk2⟩ ∧ t2.length = l.length ∧ (1 ≤ p2 ∧ p2 ≤ m) ∧ (xa1 ≤ xa2 ∧ xa2 ≤ xa1 + k2) ∧ (q2 = 0 ∨ q2 = 1 ∨ q2 = 2) ∧ (q2 ≠ 0 → lk2 < l.length) ∧ tb2 = t2.map a4L) rfl ?_ ?_
                · intro ax_ hax_
                  refine ⟨_, ⟨0, tb1, t1, p1, xa1, q1, lk1, rfl, hax_.sub ⟨rfl, rfl, rfl, rfl, rfl, rfl, rfl, rfl, rfl, rfl, rfl, rfl, rfl, trivial⟩, S15.pick [0, 1, 2, 3, 4] [_, _, _, _, _] (by decide) ⟨rfl, rfl, rfl, rfl, rfl, trivial⟩, ?hq6f0, ?hq6f1, ?hq6f2, ?hq6f3, ?hq6f4, ?hq6f5, ?hq6f6, ?hq6f7⟩⟩
                  case hq6f0 => omega
                  case hq6f1 => rfl
                  case hq6f2 => assumption
                  case hq6f3 => omega
                  case hq6f4 => omega
                  case hq6f5 => assumption
                  case hq6f6 => assumption
                  case hq6f7 => assumption
                · rintro m4 a4 w13 ⟨k2, tb2, t2, p2, xa2, q2, lk2, rfl, he4, S16, hk2, hwd, htl2, hp2, hx2, hlq2, hlk2, htb2⟩
                  clear S15
                  refine ws_in he4 (c := CloseOf_n69) rfl ?_
                  clear he4 a4
                  have hwk := fun h => hwb k2 h
                  refine ws_seqN CloseOf_n70 CloseOf_n71 rfl rfl rfl ?_
                  refine ws_seqN CloseOf_n72 CloseOf_n73 rfl rfl rfl ?_
                  refine ws_region rfl ?_
                  refine wl_op (k := 0) (k' := 1) rfl rfl rfl (wo_run rfl rfl (run_move rfl rfl) ?_)
                  refine wl_op (k := 1) (k' := 2) rfl rfl rfl (wo_run rfl rfl (run_move rfl rfl) ?_)
                  refine wl_op (k := 2) (k' := 3) rfl rfl rfl (wo_run rfl rfl (run_len rfl rfl rfl rfl rfl rfl Try.underlying22) ?_)
                  refine wl_op (k := 3) (k' := 4) rfl rfl rfl (wo_run rfl rfl (run_lss rfl rfl rfl) ?_)
                  refine wl_end rfl ?_
                  refine nm_sub [(0, _), (1, _), (4, _), (5, _), (6, _), (8, _), (9, _), (10, _), (11, _), (12, _), (13, _), (14, _), (15, _), (59, _)] ⟨rfl, rfl, rfl, rfl, rfl, rfl, rfl, rfl, rfl, rfl, rfl, rfl, rfl, rfl, trivial⟩ ?_
                  refine nm_thn ?_
                  refine ws_condN CloseOf_n74 CloseOf_n75 rfl rfl rfl rfl (fun hb59 => ?_) (fun hb59 => ?_)
                  · have hb59 := of_decide_eq_true hb59
                    refine ws_skip rfl ?_
                    refine nm_sub [(0, _), (1, _), (4, _), (5, _), (6, _), (8, _), (9, _), (10, _), (11, _), (12, _), (13, _), (14, _), (15, _)] ⟨rfl, rfl, rfl, rfl, rfl, rfl, rfl, rfl, rfl, rfl, rfl, rfl, rfl, trivial⟩ ?_
                    refine nm_thn ?_
                    refine ws_seqN CloseOf_n76 CloseOf_n77 rfl rfl rfl ?_
                    refine ws_blockN CloseOf_n78 7 rfl rfl rfl ?_
                    refine ws_seqN CloseOf_n79 CloseOf_n80 rfl rfl rfl ?_
                    refine ws_region rfl ?_
                    refine wl_op (k := 0) (k' := 1) rfl rfl rfl (wo_run rfl rfl (run_move rfl rfl) ?_)
                    refine wl_op (k := 1) (k' := 2) rfl rfl rfl (wo_run rfl rfl (run_move rfl rfl) ?_)
                    refine wl_op (k := 2) (k' := 3) rfl rfl rfl (wo_run rfl rfl (run_indexM (C := cdInt) k2 rfl rfl rfl sl22 (by first | rfl | omega) hl (by first | omega | (simp only [List.length_set, List.length_append, List.length_replicate, List.length_singleton, List.length_cons, List.length_nil]; omega))) ?_)
                    refine wl_op (k := 3) (k' := 4) rfl rfl rfl (wo_run rfl rfl (run_load1 rfl rfl Try.underlying3 rfl (hl.cell S16.um (i := k2) (by first | omega | (simp only [List.length_set, List.length_append, List.length_replicate, List.length_singleton, List.length_cons, List.length_nil]; omega)) 0 rfl rfl)) ?_)
                    refine wl_op (k := 4) (k' := 5) rfl rfl rfl (wo_cq rfl rfl rfl rfl rfl rfl rfl cf29 S16 (abs_q (ga l k2) (by omega) S16.lend) ?_)
                    rintro _ w14 S17 rfl; clear S16
                    refine wl_op (k := 5) (k' := 6) rfl rfl rfl (wo_run rfl rfl (run_assign rfl rfl) ?_)
                    refine wl_end rfl ?_
                    refine nm_sub [(0, _), (1, _), (4, _), (5, _), (6, _), (8, _), (9, _), (10, _), (11, _), (12, _), (13, _), (14, _), (15, _), (16, _)] ⟨rfl, rfl, rfl, rfl, rfl, rfl, rfl, rfl, rfl, rfl, rfl, rfl, rfl, rfl, trivial⟩ ?_
                    refine nm_thn ?_
                    refine ws_seqN CloseOf_n81 CloseOf_n82 rfl rfl rfl ?_
                    refine ws_seqN CloseOf_n83 CloseOf_n84 rfl rfl rfl ?_
                    refine ws_eq 16 (.int .i64 (leC l k2 : Int)) rfl (int_eq (by unfold leC; omega)) ?_
                    have hle2 : 1 ≤ leC l k2 ∧ leC l k2 + 1 ≤ m := by have := hwb k2 (by omega); unfold leC; omega
                    refine ws_region rfl ?_
                    refine wl_op (k := 0) (k' := 1) rfl rfl rfl (wo_run rfl rfl (run_move rfl rfl) ?_)
                    refine wl_op (k := 1) (k' := 2) rfl rfl rfl (wo_run rfl rfl (run_move rfl rfl) ?_)
                    refine wl_op (k := 2) (k' := 3) rfl rfl rfl (wo_run rfl rfl (run_neq rfl rfl rfl) ?_)
                    refine wl_op (k := 3) (k' := 4) rfl rfl rfl (wo_run rfl rfl (run_move rfl rfl) ?_)
                    refine wl_split (t := 70) rfl (fun hg70 => ?_) (fun hg70 => ?_)
                    · have hg70 := of_decide_eq_true hg70
                      refine wl_opG (k := 4) (k' := 5) rfl rfl ⟨_, _, _, rfl, rfl, rfl, rfl⟩ rfl (wo_run rfl rfl (run_move rfl rfl) ?_)
                      refine wl_opG (k := 5) (k' := 6) rfl rfl ⟨_, _, _, rfl, rfl, rfl, rfl⟩ rfl (wo_run rfl rfl (run_move rfl rfl) ?_)
                      refine wl_opG (k := 6) (k' := 7) rfl rfl ⟨_, _, _, rfl, rfl, rfl, rfl⟩ rfl (wo_run rfl rfl (run_add rfl rfl rfl (by first | omega | (simp only [List.length_set, List.length_append, List.length_replicate, List.length_singleton, List.length_cons, List.length_nil]; omega))) ?_)
                      refine wl_opG (k := 7) (k' := 8) rfl rfl ⟨_, _, _, rfl, rfl, rfl, rfl⟩ rfl (wo_run rfl rfl (run_neq rfl rfl rfl) ?_)
                      refine wl_op (k := 8) (k' := 9) rfl rfl rfl (wo_run rfl rfl (run_pickT rfl rfl rfl) ?_)
                      refine wl_end rfl ?_
                      refine nm_sub [(0, _), (1, _), (4, _), (5, _), (6, _), (8, _), (9, _), (10, _), (11, _), (12, _), (13, _), (14, _), (15, _), (16, _), (75, _)] ⟨rfl, rfl, rfl, rfl, rfl, rfl, rfl, rfl, rfl, rfl, rfl, rfl, rfl, rfl, rfl, trivial⟩ ?_
                      refine nm_thn ?_
                      refine ws_condN CloseOf_n85 CloseOf_n86 rfl rfl rfl rfl (fun hb75 => ?_) (fun hb75 => ?_)
                      · have hb75 := of_decide_eq_true hb75
                        refine ws_exit rfl rfl ?_
                        refine nm_sub [(0, _), (1, _), (4, _), (5, _), (6, _), (8, _), (9, _), (10, _), (11, _), (12, _), (13, _), (14, _), (15, _)] ⟨rfl, rfl, rfl, rfl, rfl, rfl, rfl, rfl, rfl, rfl, rfl, rfl, rfl, trivial⟩ ?_
                        refine nm_thn ?_
                        refine ws_region rfl ?_
                        refine wl_op (k := 0) (k' := 1) rfl rfl rfl (wo_run rfl rfl (run_move rfl rfl) ?_)
                        refine wl_op (k := 1) (k' := 2) rfl rfl rfl (wo_run rfl rfl (run_add rfl rfl rfl (by first | omega | (simp only [List.length_set, List.length_append, List.length_replicate, List.length_singleton, List.length_cons, List.length_nil]; omega))) ?_)
                        refine wl_op (k := 2) (k' := 3) rfl rfl rfl (wo_run rfl rfl (run_assign rfl rfl) ?_)
                        refine wl_end rfl ?_
                        refine nm_lp ?_
                        have hwd9 := wordC_succ l ⟨t1, p1, xa1 + 1, q1, lk1⟩ k2
                        rw [hwd] at hwd9
                        unfold letC at hwd9; dsimp only at hwd9; rw [if_neg (by omega), if_neg (by omega)] at hwd9
                        intro ax_ hax_
                        refine ⟨_, ?hq7m, ⟨k2 + 1, tb2, t2, p2, xa2, q2, lk2, rfl, hax_.sub ⟨rfl, rfl, rfl, rfl, rfl, rfl, rfl, rfl, rfl, rfl, rfl, rfl, rfl, trivial⟩, S17.pick [0, 1, 2, 3, 4] [_, _, _, _, _] (by decide) ⟨rfl, rfl, rfl, rfl, rfl, trivial⟩, ?hq7f0, ?hq7f1, ?hq7f2, ?hq7f3, ?hq7f4, ?hq7f5, ?hq7f6, ?hq7f7⟩⟩
                        case hq7f0 => omega
                        case hq7f1 => exact hwd9
                        case hq7f2 => first | assumption | simpa using htl2
                        case hq7f3 => omega
                        case hq7f4 => omega
                        case hq7f5 => omega
                        case hq7f6 => first | assumption | omega
                        case hq7f7 => first | assumption | exact a4_let0 htb2 (by omega) _ _ | exact a4_let1 htb2 (by omega) _ _
                        case hq7m => omega
                      · have hb75 := of_decide_eq_false hb75
                        refine ws_skip rfl ?_
                        refine nm_sub [(0, _), (1, _), (4, _), (5, _), (6, _), (8, _), (9, _), (10, _), (11, _), (14, _), (15, _), (16, _)] ⟨rfl, rfl, rfl, rfl, rfl, rfl, rfl, rfl, rfl, rfl, rfl, rfl, trivial⟩ ?_
                        refine nm_thn ?_
                        refine ws_seqN CloseOf_n87 CloseOf_n88 rfl rfl rfl ?_
                        refine ws_region rfl ?_
                        refine wl_op (k := 0) (k' := 1) rfl rfl rfl (wo_run rfl rfl (run_move rfl rfl) ?_)
                        refine wl_op (k := 1) (k' := 2) rfl rfl rfl (wo_run rfl rfl (run_move rfl rfl) ?_)
                        refine wl_op (k := 2) (k' := 3) rfl rfl rfl (wo_run rfl rfl (run_sub rfl rfl rfl (by first | omega | (simp only [List.length_set, List.length_append, List.length_replicate, List.length_singleton, List.length_cons, List.length_nil]; omega))) ?_)
                        refine wl_op (k := 3) (k' := 4) rfl rfl rfl (wo_run rfl rfl (run_assign rfl rfl) ?_)
                        refine wl_end rfl ?_
                        refine nm_sub [(0, _), (1, _), (4, _), (5, _), (6, _), (8, _), (9, _), (10, _), (11, _), (14, _), (15, _), (16, _), (17, _)] ⟨rfl, rfl, rfl, rfl, rfl, rfl, rfl, rfl, rfl, rfl, rfl, rfl, rfl, trivial⟩ ?_
                        refine nm_thn ?_
                        refine ws_seqN CloseOf_n89 CloseOf_n90 rfl rfl rfl ?_
                        refine ws_eq 17 (.int .i64 1) rfl (int_eq (by omega)) ?_
                        refine ws_region rfl ?_
                        refine wl_op (k := 0) (k' := 1) rfl rfl rfl (wo_run rfl rfl (run_move rfl rfl) ?_)
                        refine wl_op (k := 1) (k' := 2) rfl rfl rfl (wo_run rfl rfl (run_mul rfl rfl rfl (by first | omega | (simp only [List.length_set, List.length_append, List.length_replicate, List.length_singleton, List.length_cons, List.length_nil]; omega))) ?_)
                        refine wl_op (k := 2) (k' := 3) rfl rfl rfl (wo_run rfl rfl (run_add rfl rfl rfl (by first | omega | (simp only [List.length_set, List.length_append, List.length_replicate, List.length_singleton, List.length_cons, List.length_nil]; omega))) ?_)
                        refine wl_op (k := 3) (k' := 4) rfl rfl rfl (wo_run rfl rfl (run_move rfl rfl) ?_)
                        refine wl_op (k := 4) (k' := 5) rfl rfl rfl (wo_run rfl rfl (run_sub rfl rfl rfl (by first | omega | (simp only [List.length_set, List.length_append, List.length_replicate, List.length_singleton, List.length_cons, List.length_nil]; omega))) ?_)
                        refine wl_op (k := 5) (k' := 6) rfl rfl rfl (wo_run rfl rfl (run_assign rfl rfl) ?_)
                        refine wl_end rfl ?_
                        refine nm_sub [(0, _), (1, _), (4, _), (5, _), (6, _), (8, _), (9, _), (10, _), (11, _), (14, _), (15, _), (17, _)] ⟨rfl, rfl, rfl, rfl, rfl, rfl, rfl, rfl, rfl, rfl, rfl, rfl, trivial⟩ ?_
                        refine nm_thn ?_
                        refine ws_seqN CloseOf_n91 CloseOf_n92 rfl rfl rfl ?_
                        refine ws_eq 14 (.int .i64 (leC l k2 : Int)) rfl (int_eq (by omega)) ?_
                        have hg2 := a4_ga htb2 (k := k2) (by omega)
                        have hg4 : (ga tb2 k2).length = 4 := by rw [hg2]; rfl
                        have htbl2 : tb2.length = l.length := by rw [htb2]; simpa using htl2
                        refine ws_region rfl ?_
                        refine wl_op (k := 0) (k' := 1) rfl rfl rfl (wo_run rfl rfl (run_move rfl rfl) ?_)
                        refine wl_op (k := 1) (k' := 2) rfl rfl rfl (wo_run rfl rfl (run_add rfl rfl rfl (by first | omega | (simp only [List.length_set, List.length_append, List.length_replicate, List.length_singleton, List.length_cons, List.length_nil]; omega))) ?_)
                        refine wl_op (k := 2) (k' := 3) rfl rfl rfl (wo_run rfl rfl (run_assign rfl rfl) ?_)
                        refine wl_end rfl ?_
                        refine nm_sub [(0, _), (1, _), (4, _), (5, _), (6, _), (8, _), (9, _), (10, _), (11, _), (14, _), (15, _), (17, _)] ⟨rfl, rfl, rfl, rfl, rfl, rfl, rfl, rfl, rfl, rfl, rfl, rfl, trivial⟩ ?_
                        refine nm_thn ?_
                        refine ws_seqN CloseOf_n93 CloseOf_n94 rfl rfl rfl ?_
                        refine ws_region rfl ?_
                        refine wl_op (k := 0) (k' := 1) rfl rfl rfl (wo_run rfl rfl (run_move rfl rfl) ?_)
                        refine wl_op (k := 1) (k' := 2) rfl rfl rfl (wo_run rfl rfl (run_move rfl rfl) ?_)
                        refine wl_op (k := 2) (k' := 3) rfl rfl rfl (wo_run rfl rfl (run_indexR (C := (cdV 22)) (i := 2) k2 rfl rfl rfl sl27 S17 rfl (by first | rfl | omega) (by first | omega | (simp only [List.length_set, List.length_append, List.length_replicate, List.length_singleton, List.length_cons, List.length_nil]; omega))) ?_)
                        refine wl_op (k := 3) (k' := 4) rfl rfl rfl (wo_run rfl rfl (run_load1 rfl rfl Try.underlying22 rfl (S17.rowc (i := 2) (e := k2) (j := 0) rfl (by first | omega | (simp only [List.length_set, List.length_append, List.length_replicate, List.length_singleton, List.length_cons, List.length_nil]; omega)) rfl rfl)) ?_)
                        refine wl_op (k := 4) (k' := 5) rfl rfl rfl (wo_run rfl rfl (run_move rfl rfl) ?_)
                        refine wl_op (k := 5) (k' := 6) rfl rfl rfl (wo_run rfl rfl (run_move rfl rfl) ?_)
                        refine wl_op (k := 6) (k' := 7) rfl rfl rfl (wo_run rfl rfl (run_indexT (C := cdInt) (vs := vs) (xss := tb2) (i := 1) k2 1 rfl rfl rfl rfl sl22 S17 rfl (by first | omega | (simp only [List.length_set, List.length_append, List.length_replicate, List.length_singleton, List.length_cons, List.length_nil]; omega) | (rw [ga_set _ _ _ _ (by first | omega | (simp only [List.length_set]; omega)), if_pos rfl]; simp only [List.length_set]; omega)) (by first | rfl | omega) (by first | omega | (simp only [List.length_set, List.length_append, List.length_replicate, List.length_singleton, List.length_cons, List.length_nil]; omega) | (rw [ga_set _ _ _ _ (by first | omega | (simp only [List.length_set]; omega)), if_pos rfl]; simp only [List.length_set]; omega))) ?_)
                        refine wl_op (k := 7) (k' := 8) rfl rfl rfl (wo_storeT (C := cdInt) (vs := vs) (xss := tb2) (i := 1) (k := k2) (e := 1) (j := 0) (us := [_]) (H' := [_, _, _, _, _]) ((xa2 : Int) + 1) rfl rfl S17 rfl (by first | omega | (simp only [List.length_set, List.length_append, List.length_replicate, List.length_singleton, List.length_cons, List.length_nil]; omega) | (rw [ga_set _ _ _ _ (by first | omega | (simp only [List.length_set]; omega)), if_pos rfl]; simp only [List.length_set]; omega)) (by first | omega | (simp only [List.length_set, List.length_append, List.length_replicate, List.length_singleton, List.length_cons, List.length_nil]; omega) | (rw [ga_set _ _ _ _ (by first | omega | (simp only [List.length_set]; omega)), if_pos rfl]; simp only [List.length_set]; omega)) rfl rfl rfl sz3 rfl rfl rfl rfl ?_)
                        intro w15 S18; clear S17
                        refine wl_end rfl ?_
                        refine nm_sub [(0, _), (1, _), (4, _), (5, _), (6, _), (8, _), (9, _), (10, _), (11, _), (14, _), (15, _), (17, _)] ⟨rfl, rfl, rfl, rfl, rfl, rfl, rfl, rfl, rfl, rfl, rfl, rfl, trivial⟩ ?_
                        refine nm_thn ?_
                        refine ws_seqN CloseOf_n95 CloseOf_n96 rfl rfl rfl ?_
                        refine ws_region rfl ?_
                        refine wl_op (k := 0) (k' := 1) rfl rfl rfl (wo_run rfl rfl (run_move rfl rfl) ?_)
                        refine wl_op (k := 1) (k' := 2) rfl rfl rfl (wo_run rfl rfl (run_move rfl rfl) ?_)
                        refine wl_op (k := 2) (k' := 3) rfl rfl rfl (wo_run rfl rfl (run_indexR (C := (cdV 22)) (i := 2) k2 rfl rfl rfl sl27 S18 rfl (by first | rfl | omega) (by first | omega | (simp only [List.length_set, List.length_append, List.length_replicate, List.length_singleton, List.length_cons, List.length_nil]; omega))) ?_)
                        refine wl_op (k := 3) (k' := 4) rfl rfl rfl (wo_run rfl rfl (run_load1 rfl rfl Try.underlying22 rfl (S18.rowc (i := 2) (e := k2) (j := 0) rfl (by first | omega | (simp only [List.length_set, List.length_append, List.length_replicate, List.length_singleton, List.length_cons, List.length_nil]; omega)) rfl rfl)) ?_)
                        refine wl_op (k := 4) (k' := 5) rfl rfl rfl (wo_run rfl rfl (run_move rfl rfl) ?_)
                        refine wl_op (k := 5) (k' := 6) rfl rfl rfl (wo_run rfl rfl (run_add rfl rfl rfl (by first | omega | (simp only [List.length_set, List.length_append, List.length_replicate, List.length_singleton, List.length_cons, List.length_nil]; omega))) ?_)
                        refine wl_op (k := 6) (k' := 7) rfl rfl rfl (wo_run rfl rfl (run_move rfl rfl) ?_)
                        refine wl_op (k := 7) (k' := 8) rfl rfl rfl (wo_run rfl rfl (run_add rfl rfl rfl (by first | omega | (simp only [List.length_set, List.length_append, List.length_replicate, List.length_singleton, List.length_cons, List.length_nil]; omega))) ?_)
                        refine wl_eq 98 (.int .i64 3) rfl (int_eq (by omega)) ?_
                        refine wl_op (k := 8) (k' := 9) rfl rfl rfl (wo_run rfl rfl (run_indexT (C := cdInt) (vs := vs) (xss := (tb2.set k2 ((ga tb2 k2).set 1 ((xa2 : Int) + 1)))) (i := 1) k2 3 rfl rfl rfl rfl sl22 S18 rfl (by first | omega | (simp only [List.length_set, List.length_append, List.length_replicate, List.length_singleton, List.length_cons, List.length_nil]; omega) | (rw [ga_set _ _ _ _ (by first | omega | (simp only [List.length_set]; omega)), if_pos rfl]; simp only [List.length_set]; omega)) (by first | rfl | omega) (by first | omega | (simp only [List.length_set, List.length_append, List.length_replicate, List.length_singleton, List.length_cons, List.length_nil]; omega) | (rw [ga_set _ _ _ _ (by first | omega | (simp only [List.length_set]; omega)), if_pos rfl]; simp only [List.length_set]; omega))) ?_)
                        refine wl_op (k := 9) (k' := 10) rfl rfl rfl (wo_storeT (C := cdInt) (vs := vs) (xss := (tb2.set k2 ((ga tb2 k2).set 1 ((xa2 : Int) + 1)))) (i := 1) (k := k2) (e := 3) (j := 0) (us := [_]) (H' := [_, _, _, _, _]) (((xa2 : Int) + 1) + 1) rfl rfl S18 rfl (by first | omega | (simp only [List.length_set, List.length_append, List.length_replicate, List.length_singleton, List.length_cons, List.length_nil]; omega) | (rw [ga_set _ _ _ _ (by first | omega | (simp only [List.length_set]; omega)), if_pos rfl]; simp only [List.length_set]; omega)) (by first | omega | (simp only [List.length_set, List.length_append, List.length_replicate, List.length_singleton, List.length_cons, List.length_nil]; omega) | (rw [ga_set _ _ _ _ (by first | omega | (simp only [List.length_set]; omega)), if_pos rfl]; simp only [List.length_set]; omega)) rfl rfl rfl sz3 rfl rfl rfl rfl ?_)
                        intro w16 S19; clear S18
                        refine wl_end rfl ?_
                        refine nm_sub [(0, _), (1, _), (4, _), (5, _), (6, _), (8, _), (9, _), (10, _), (11, _), (14, _), (15, _), (17, _)] ⟨rfl, rfl, rfl, rfl, rfl, rfl, rfl, rfl, rfl, rfl, rfl, rfl, trivial⟩ ?_
                        refine nm_thn ?_
                        refine ws_region rfl ?_
                        refine wl_op (k := 0) (k' := 1) rfl rfl rfl (wo_run rfl rfl (run_move rfl rfl) ?_)
                        refine wl_op (k := 1) (k' := 2) rfl rfl rfl (wo_run rfl rfl (run_move rfl rfl) ?_)
                        refine wl_op (k := 2) (k' := 3) rfl rfl rfl (wo_run rfl rfl (run_assign rfl rfl) ?_)
                        refine wl_op (k := 3) (k' := 4) rfl rfl rfl (wo_run rfl rfl (run_assign rfl rfl) ?_)
                        refine wl_end rfl ?_
                        refine nm_blk ?_
                        refine nm_sub [(0, _), (1, _), (4, _), (5, _), (6, _), (8, _), (9, _), (10, _), (11, _), (14, _), (15, _), (12, _), (13, _)] ⟨rfl, rfl, rfl, rfl, rfl, rfl, rfl, rfl, rfl, rfl, rfl, rfl, rfl, trivial⟩ ?_
                        refine nm_thn ?_
                        refine ws_region rfl ?_
                        refine wl_op (k := 0) (k' := 1) rfl rfl rfl (wo_run rfl rfl (run_move rfl rfl) ?_)
                        refine wl_op (k := 1) (k' := 2) rfl rfl rfl (wo_run rfl rfl (run_add rfl rfl rfl (by first | omega | (simp only [List.length_set, List.length_append, List.length_replicate, List.length_singleton, List.length_cons, List.length_nil]; omega))) ?_)
                        refine wl_op (k := 2) (k' := 3) rfl rfl rfl (wo_run rfl rfl (run_assign rfl rfl) ?_)
                        refine wl_end rfl ?_
                        refine nm_lp ?_
                        have hwd9 := wordC_succ l ⟨t1, p1, xa1 + 1, q1, lk1⟩ k2
                        rw [hwd] at hwd9
                        unfold letC at hwd9; dsimp only at hwd9; rw [if_neg (by omega), if_pos (by omega)] at hwd9
                        intro ax_ hax_
                        refine ⟨_, ?hq8m, ⟨k2 + 1, _, (t2.set k2 ⟨(ga t2 k2).a, (ga t2 k2).b, (xa2 + 1 : Nat), ((xa2 + 1 : Nat) : Int) + 1⟩), leC l k2, xa2 + 1, 2, k2, rfl, hax_.sub ⟨rfl, rfl, rfl, rfl, rfl, rfl, rfl, rfl, rfl, rfl, rfl, rfl, rfl, trivial⟩, S19.pick [0, 1, 2, 3, 4] [_, _, _, _, _] (by decide) ⟨rfl, rfl, rfl, rfl, rfl, trivial⟩, ?hq8f0, ?hq8f1, ?hq8f2, ?hq8f3, ?hq8f4, ?hq8f5, ?hq8f6, ?hq8f7⟩⟩
                        case hq8f0 => omega
                        case hq8f1 => exact hwd9
                        case hq8f2 => first | assumption | simpa using htl2
                        case hq8f3 => omega
                        case hq8f4 => omega
                        case hq8f5 => omega
                        case hq8f6 => first | assumption | omega
                        case hq8f7 => first | assumption | exact a4_let0 htb2 (by omega) _ _ | exact a4_let1 htb2 (by omega) _ _
                        case hq8m => omega
                    · have hg70 := of_decide_eq_false hg70
                      refine wl_no (k := 4) (k' := 5) (d := 71) rfl rfl ⟨_, _, _, rfl, rfl, rfl, rfl⟩ rfl rfl ?_
                      refine wl_no (k := 5) (k' := 6) (d := 72) rfl rfl ⟨_, _, _, rfl, rfl, rfl, rfl⟩ rfl rfl ?_
                      refine wl_no (k := 6) (k' := 7) (d := 73) rfl rfl ⟨_, _, _, rfl, rfl, rfl, rfl⟩ rfl rfl ?_
                      refine wl_no (k := 7) (k' := 8) (d := 74) rfl rfl ⟨_, _, _, rfl, rfl, rfl, rfl⟩ rfl rfl ?_
                      refine wl_op (k := 8) (k' := 9) rfl rfl rfl (wo_run rfl rfl (run_pickF rfl rfl rfl) ?_)
                      refine wl_end rfl ?_
                      refine nm_sub [(0, _), (1, _), (4, _), (5, _), (6, _), (8, _), (9, _), (10, _), (11, _), (12, _), (13, _), (14, _), (15, _), (16, _), (75, _)] ⟨rfl, rfl, rfl, rfl, rfl, rfl, rfl, rfl, rfl, rfl, rfl, rfl, rfl, rfl, rfl, trivial⟩ ?_
                      refine nm_thn ?_
                      refine ws_condFN CloseOf_n86 rfl rfl rfl ?_
                      refine ws_skip rfl ?_
                      refine nm_sub [(0, _), (1, _), (4, _), (5, _), (6, _), (8, _), (9, _), (10, _), (11, _), (14, _), (15, _), (16, _)] ⟨rfl, rfl, rfl, rfl, rfl, rfl, rfl, rfl, rfl, rfl, rfl, rfl, trivial⟩ ?_
                      refine nm_thn ?_
                      refine ws_seqN CloseOf_n87 CloseOf_n88 rfl rfl rfl ?_
                      refine ws_region rfl ?_
                      refine wl_op (k := 0) (k' := 1) rfl rfl rfl (wo_run rfl rfl (run_move rfl rfl) ?_)
                      refine wl_op (k := 1) (k' := 2) rfl rfl rfl (wo_run rfl rfl (run_move rfl rfl) ?_)
                      refine wl_op (k := 2) (k' := 3) rfl rfl rfl (wo_run rfl rfl (run_sub rfl rfl rfl (by first | omega | (simp only [List.length_set, List.length_append, List.length_replicate, List.length_singleton, List.length_cons, List.length_nil]; omega))) ?_)
                      refine wl_op (k := 3) (k' := 4) rfl rfl rfl (wo_run rfl rfl (run_assign rfl rfl) ?_)
                      refine wl_end rfl ?_
                      refine nm_sub [(0, _), (1, _), (4, _), (5, _), (6, _), (8, _), (9, _), (10, _), (11, _), (14, _), (15, _), (16, _), (17, _)] ⟨rfl, rfl, rfl, rfl, rfl, rfl, rfl, rfl, rfl, rfl, rfl, rfl, rfl, trivial⟩ ?_
                      refine nm_thn ?_
                      refine ws_seqN CloseOf_n89 CloseOf_n90 rfl rfl rfl ?_
                      refine ws_eq 17 (.int .i64 0) rfl (int_eq (by omega)) ?_
                      refine ws_region rfl ?_
                      refine wl_op (k := 0) (k' := 1) rfl rfl rfl (wo_run rfl rfl (run_move rfl rfl) ?_)
                      refine wl_op (k := 1) (k' := 2) rfl rfl rfl (wo_run rfl rfl (run_mul rfl rfl rfl (by first | omega | (simp only [List.length_set, List.length_append, List.length_replicate, List.length_singleton, List.length_cons, List.length_nil]; omega))) ?_)
                      refine wl_op (k := 2) (k' := 3) rfl rfl rfl (wo_run rfl rfl (run_add rfl rfl rfl (by first | omega | (simp only [List.length_set, List.length_append, List.length_replicate, List.length_singleton, List.length_cons, List.length_nil]; omega))) ?_)
                      refine wl_op (k := 3) (k' := 4) rfl rfl rfl (wo_run rfl rfl (run_move rfl rfl) ?_)
                      refine wl_op (k := 4) (k' := 5) rfl rfl rfl (wo_run rfl rfl (run_sub rfl rfl rfl (by first | omega | (simp only [List.length_set, List.length_append, List.length_replicate, List.length_singleton, List.length_cons, List.length_nil]; omega))) ?_)
                      refine wl_op (k := 5) (k' := 6) rfl rfl rfl (wo_run rfl rfl (run_assign rfl rfl) ?_)
                      refine wl_end rfl ?_
                      refine nm_sub [(0, _), (1, _), (4, _), (5, _), (6, _), (8, _), (9, _), (10, _), (11, _), (14, _), (15, _), (17, _)] ⟨rfl, rfl, rfl, rfl, rfl, rfl, rfl, rfl, rfl, rfl, rfl, rfl, trivial⟩ ?_
                      refine nm_thn ?_
                      refine ws_seqN CloseOf_n91 CloseOf_n92 rfl rfl rfl ?_
                      refine ws_eq 14 (.int .i64 ((leC l k2 + 1 : Nat) : Int)) rfl (int_eq (by omega)) ?_
                      have hg2 := a4_ga htb2 (k := k2) (by omega)
                      have hg4 : (ga tb2 k2).length = 4 := by rw [hg2]; rfl
                      have htbl2 : tb2.length = l.length := by rw [htb2]; simpa using htl2
                      refine ws_region rfl ?_
                      refine wl_op (k := 0) (k' := 1) rfl rfl rfl (wo_run rfl rfl (run_move rfl rfl) ?_)
                      refine wl_op (k := 1) (k' := 2) rfl rfl rfl (wo_run rfl rfl (run_add rfl rfl rfl (by first | omega | (simp only [List.length_set, List.length_append, List.length_replicate, List.length_singleton, List.length_cons, List.length_nil]; omega))) ?_)
                      refine wl_op (k := 2) (k' := 3) rfl rfl rfl (wo_run rfl rfl (run_assign rfl rfl) ?_)
                      refine wl_end rfl ?_
                      refine nm_sub [(0, _), (1, _), (4, _), (5, _), (6, _), (8, _), (9, _), (10, _), (11, _), (14, _), (15, _), (17, _)] ⟨rfl, rfl, rfl, rfl, rfl, rfl, rfl, rfl, rfl, rfl, rfl, rfl, trivial⟩ ?_
                      refine nm_thn ?_
                      refine ws_seqN CloseOf_n93 CloseOf_n94 rfl rfl rfl ?_
                      refine ws_region rfl ?_
                      refine wl_op (k := 0) (k' := 1) rfl rfl rfl (wo_run rfl rfl (run_move rfl rfl) ?_)
                      refine wl_op (k := 1) (k' := 2) rfl rfl rfl (wo_run rfl rfl (run_move rfl rfl) ?_)
                      refine wl_op (k := 2) (k' := 3) rfl rfl rfl (wo_run rfl rfl (run_indexR (C := (cdV 22)) (i := 2) k2 rfl rfl rfl sl27 S17 rfl (by first | rfl | omega) (by first | omega | (simp only [List.length_set, List.length_append, List.length_replicate, List.length_singleton, List.length_cons, List.length_nil]; omega))) ?_)
                      refine wl_op (k := 3) (k' := 4) rfl rfl rfl (wo_run rfl rfl (run_load1 rfl rfl Try.underlying22 rfl (S17.rowc (i := 2) (e := k2) (j := 0) rfl (by first | omega | (simp only [List.length_set, List.length_append, List.length_replicate, List.length_singleton, List.length_cons, List.length_nil]; omega)) rfl rfl)) ?_)
                      refine wl_op (k := 4) (k' := 5) rfl rfl rfl (wo_run rfl rfl (run_move rfl rfl) ?_)
                      refine wl_op (k := 5) (k' := 6) rfl rfl rfl (wo_run rfl rfl (run_move rfl rfl) ?_)
                      refine wl_op (k := 6) (k' := 7) rfl rfl rfl (wo_run rfl rfl (run_indexT (C := cdInt) (vs := vs) (xss := tb2) (i := 1) k2 0 rfl rfl rfl rfl sl22 S17 rfl (by first | omega | (simp only [List.length_set, List.length_append, List.length_replicate, List.length_singleton, List.length_cons, List.length_nil]; omega) | (rw [ga_set _ _ _ _ (by first | omega | (simp only [List.length_set]; omega)), if_pos rfl]; simp only [List.length_set]; omega)) (by first | rfl | omega) (by first | omega | (simp only [List.length_set, List.length_append, List.length_replicate, List.length_singleton, List.length_cons, List.length_nil]; omega) | (rw [ga_set _ _ _ _ (by first | omega | (simp only [List.length_set]; omega)), if_pos rfl]; simp only [List.length_set]; omega))) ?_)
                      refine wl_op (k := 7) (k' := 8) rfl rfl rfl (wo_storeT (C := cdInt) (vs := vs) (xss := tb2) (i := 1) (k := k2) (e := 0) (j := 0) (us := [_]) (H' := [_, _, _, _, _]) ((xa2 : Int) + 1) rfl rfl S17 rfl (by first | omega | (simp only [List.length_set, List.length_append, List.length_replicate, List.length_singleton, List.length_cons, List.length_nil]; omega) | (rw [ga_set _ _ _ _ (by first | omega | (simp only [List.length_set]; omega)), if_pos rfl]; simp only [List.length_set]; omega)) (by first | omega | (simp only [List.length_set, List.length_append, List.length_replicate, List.length_singleton, List.length_cons, List.length_nil]; omega) | (rw [ga_set _ _ _ _ (by first | omega | (simp only [List.length_set]; omega)), if_pos rfl]; simp only [List.length_set]; omega)) rfl rfl rfl sz3 rfl rfl rfl rfl ?_)
                      intro w17 S20; clear S17
                      refine wl_end rfl ?_
                      refine nm_sub [(0, _), (1, _), (4, _), (5, _), (6, _), (8, _), (9, _), (10, _), (11, _), (14, _), (15, _), (17, _)] ⟨rfl, rfl, rfl, rfl, rfl, rfl, rfl, rfl, rfl, rfl, rfl, rfl, trivial⟩ ?_
                      refine nm_thn ?_
                      refine ws_seqN CloseOf_n95 CloseOf_n96 rfl rfl rfl ?_
                      refine ws_region rfl ?_
                      refine wl_op (k := 0) (k' := 1) rfl rfl rfl (wo_run rfl rfl (run_move rfl rfl) ?_)
                      refine wl_op (k := 1) (k' := 2) rfl rfl rfl (wo_run rfl rfl (run_move rfl rfl) ?_)
                      refine wl_op (k := 2) (k' := 3) rfl rfl rfl (wo_run rfl rfl (run_indexR (C := (cdV 22)) (i := 2) k2 rfl rfl rfl sl27 S20 rfl (by first | rfl | omega) (by first | omega | (simp only [List.length_set, List.length_append, List.length_replicate, List.length_singleton, List.length_cons, List.length_nil]; omega))) ?_)
                      refine wl_op (k := 3) (k' := 4) rfl rfl rfl (wo_run rfl rfl (run_load1 rfl rfl Try.underlying22 rfl (S20.rowc (i := 2) (e := k2) (j := 0) rfl (by first | omega | (simp only [List.length_set, List.length_append, List.length_replicate, List.length_singleton, List.length_cons, List.length_nil]; omega)) rfl rfl)) ?_)
                      refine wl_op (k := 4) (k' := 5) rfl rfl rfl (wo_run rfl rfl (run_move rfl rfl) ?_)
                      refine wl_op (k := 5) (k' := 6) rfl rfl rfl (wo_run rfl rfl (run_add rfl rfl rfl (by first | omega | (simp only [List.length_set, List.length_append, List.length_replicate, List.length_singleton, List.length_cons, List.length_nil]; omega))) ?_)
                      refine wl_op (k := 6) (k' := 7) rfl rfl rfl (wo_run rfl rfl (run_move rfl rfl) ?_)
                      refine wl_op (k := 7) (k' := 8) rfl rfl rfl (wo_run rfl rfl (run_add rfl rfl rfl (by first | omega | (simp only [List.length_set, List.length_append, List.length_replicate, List.length_singleton, List.length_cons, List.length_nil]; omega))) ?_)
                      refine wl_eq 98 (.int .i64 2) rfl (int_eq (by omega)) ?_
                      refine wl_op (k := 8) (k' := 9) rfl rfl rfl (wo_run rfl rfl (run_indexT (C := cdInt) (vs := vs) (xss := (tb2.set k2 ((ga tb2 k2).set 0 ((xa2 : Int) + 1)))) (i := 1) k2 2 rfl rfl rfl rfl sl22 S20 rfl (by first | omega | (simp only [List.length_set, List.length_append, List.length_replicate, List.length_singleton, List.length_cons, List.length_nil]; omega) | (rw [ga_set _ _ _ _ (by first | omega | (simp only [List.length_set]; omega)), if_pos rfl]; simp only [List.length_set]; omega)) (by first | rfl | omega) (by first | omega | (simp only [List.length_set, List.length_append, List.length_replicate, List.length_singleton, List.length_cons, List.length_nil]; omega) | (rw [ga_set _ _ _ _ (by first | omega | (simp only [List.length_set]; omega)), if_pos rfl]; simp only [List.length_set]; omega))) ?_)
                      refine wl_op (k := 9) (k' := 10) rfl rfl rfl (wo_storeT (C := cdInt) (vs := vs) (xss := (tb2.set k2 ((ga tb2 k2).set 0 ((xa2 : Int) + 1)))) (i := 1) (k := k2) (e := 2) (j := 0) (us := [_]) (H' := [_, _, _, _, _]) (((xa2 : Int) + 1) + 1) rfl rfl S20 rfl (by first | omega | (simp only [List.length_set, List.length_append, List.length_replicate, List.length_singleton, List.length_cons, List.length_nil]; omega) | (rw [ga_set _ _ _ _ (by first | omega | (simp only [List.length_set]; omega)), if_pos rfl]; simp only [List.length_set]; omega)) (by first | omega | (simp only [List.length_set, List.length_append, List.length_replicate, List.length_singleton, List.length_cons, List.length_nil]; omega) | (rw [ga_set _ _ _ _ (by first | omega | (simp only [List.length_set]; omega)), if_pos rfl]; simp only [List.length_set]; omega)) rfl rfl rfl sz3 rfl rfl rfl rfl ?_)
                      intro w18 S21; clear S20
                      refine wl_end rfl ?_
                      refine nm_sub [(0, _), (1, _), (4, _), (5, _), (6, _), (8, _), (9, _), (10, _), (11, _), (14, _), (15, _), (17, _)] ⟨rfl, rfl, rfl, rfl, rfl, rfl, rfl, rfl, rfl, rfl, rfl, rfl, trivial⟩ ?_
                      refine nm_thn ?_
                      refine ws_region rfl ?_
                      refine wl_op (k := 0) (k' := 1) rfl rfl rfl (wo_run rfl rfl (run_move rfl rfl) ?_)
                      refine wl_op (k := 1) (k' := 2) rfl rfl rfl (wo_run rfl rfl (run_move rfl rfl) ?_)
                      refine wl_op (k := 2) (k' := 3) rfl rfl rfl (wo_run rfl rfl (run_assign rfl rfl) ?_)
                      refine wl_op (k := 3) (k' := 4) rfl rfl rfl (wo_run rfl rfl (run_assign rfl rfl) ?_)
                      refine wl_end rfl ?_
                      refine nm_blk ?_
                      refine nm_sub [(0, _), (1, _), (4, _), (5, _), (6, _), (8, _), (9, _), (10, _), (11, _), (14, _), (15, _), (12, _), (13, _)] ⟨rfl, rfl, rfl, rfl, rfl, rfl, rfl, rfl, rfl, rfl, rfl, rfl, rfl, trivial⟩ ?_
                      refine nm_thn ?_
                      refine ws_region rfl ?_
                      refine wl_op (k := 0) (k' := 1) rfl rfl rfl (wo_run rfl rfl (run_move rfl rfl) ?_)
                      refine wl_op (k := 1) (k' := 2) rfl rfl rfl (wo_run rfl rfl (run_add rfl rfl rfl (by first | omega | (simp only [List.length_set, List.length_append, List.length_replicate, List.length_singleton, List.length_cons, List.length_nil]; omega))) ?_)
                      refine wl_op (k := 2) (k' := 3) rfl rfl rfl (wo_run rfl rfl (run_assign rfl rfl) ?_)
                      refine wl_end rfl ?_
                      refine nm_lp ?_
                      have hwd9 := wordC_succ l ⟨t1, p1, xa1 + 1, q1, lk1⟩ k2
                      rw [hwd] at hwd9
                      unfold letC at hwd9; dsimp only at hwd9; rw [if_pos (by omega)] at hwd9
                      intro ax_ hax_
                      refine ⟨_, ?hq9m, ⟨k2 + 1, _, (t2.set k2 ⟨(xa2 + 1 : Nat), ((xa2 + 1 : Nat) : Int) + 1, (ga t2 k2).c, (ga t2 k2).d⟩), leC l k2 + 1, xa2 + 1, 1, k2, rfl, hax_.sub ⟨rfl, rfl, rfl, rfl, rfl, rfl, rfl, rfl, rfl, rfl, rfl, rfl, rfl, trivial⟩, S21.pick [0, 1, 2, 3, 4] [_, _, _, _, _] (by decide) ⟨rfl, rfl, rfl, rfl, rfl, trivial⟩, ?hq9f0, ?hq9f1, ?hq9f2, ?hq9f3, ?hq9f4, ?hq9f5, ?hq9f6, ?hq9f7⟩⟩
                      case hq9f0 => omega
                      case hq9f1 => exact hwd9
                      case hq9f2 => first | assumption | simpa using htl2
                      case hq9f3 => omega
                      case hq9f4 => omega
                      case hq9f5 => omega
                      case hq9f6 => first | assumption | omega
                      case hq9f7 => first | assumption | exact a4_let0 htb2 (by omega) _ _ | exact a4_let1 htb2 (by omega) _ _
                      case hq9m => omega
                  · have hb59 := of_decide_eq_false hb59
                    refine ws_exit rfl rfl ?_
                    refine nm_blk ?_
                    refine nm_lp ?_
                    have hk2e : k2 = l.length := by omega
                    subst hk2e
                    have hfr := free_set (seen := wk1) (x := p1) (by omega) (by simpa using hb52)
                    have hwd9 : wordC l ⟨t1, p1, xa1 + 1, q1, lk1⟩ l.length = ⟨t2, p2, xa2 + 1, q2, lk2⟩ := hwd
                    intro ax_ hax_
                    refine ⟨_, ?hq10m, ⟨_, tb2, t2, p2, xa2, q2, lk2, _, rfl, hax_.sub ⟨rfl, rfl, rfl, rfl, rfl, rfl, rfl, rfl, rfl, rfl, rfl, rfl, trivial⟩, S16.pick [0, 1, 2, 3, 4] [_, _, _, _, _] (by decide) ⟨rfl, rfl, rfl, rfl, rfl, trivial⟩, ?hq10f0, ?hq10f1, ?hq10f2, ?hq10f3, ?hq10f4, ?hq10f5, ?hq10f6, ?hq10f7⟩⟩
                    case hq10f0 => (rw [hrg, ringC_go (by show p1 < _; omega) (by simpa using hb52)]; exact congrArg _ hwd9)
                    case hq10f1 => (rw [List.length_set]; exact hwkl1)
                    case hq10f2 => assumption
                    case hq10f3 => omega
                    case hq10f4 => omega
                    case hq10f5 => omega
                    case hq10f6 => assumption
                    case hq10f7 => assumption
                    case hq10m => omega
              · simp only [Bool.and_eq_true, Bool.or_eq_true, Bool.and_eq_false_iff, Bool.or_eq_false_iff, decide_eq_true_eq, decide_eq_false_iff_not, Bool.not_eq_true', Bool.not_eq_false'] at hb52
                have hw1 : ga wk1 p1 = true := by simpa using hb52
                refine ws_exit rfl rfl ?_
                refine nm_sub [(0, _), (1, _), (4, _), (5, _), (6, _), (8, _), (9, _), (10, _), (11, _), (12, _), (13, _)] ⟨rfl, rfl, rfl, rfl, rfl, rfl, rfl, rfl, rfl, rfl, rfl, trivial⟩ ?_
                refine nm_thn ?_
                refine ws_seqN CloseOf_n97 CloseOf_n98 rfl rfl rfl ?_
                refine ws_region rfl ?_
                refine wl_op (k := 0) (k' := 1) rfl rfl rfl (wo_run rfl rfl (run_move rfl rfl) ?_)
                refine wl_op (k := 1) (k' := 2) rfl rfl rfl (wo_run rfl rfl (run_lss rfl rfl rfl) ?_)
                refine wl_end rfl ?_
                refine nm_sub [(0, _), (1, _), (4, _), (5, _), (6, _), (8, _), (9, _), (10, _), (11, _), (12, _), (13, _), (105, _)] ⟨rfl, rfl, rfl, rfl, rfl, rfl, rfl, rfl, rfl, rfl, rfl, rfl, trivial⟩ ?_
                refine nm_thn ?_
                refine ws_condN CloseOf_n99 CloseOf_n100 rfl rfl rfl rfl (fun hb105 => ?_) (fun hb105 => ?_)
                · have hb105 := of_decide_eq_true hb105
                  obtain rfl : q1 = 0 := by rcases hlq1 with h | h | h; (· exact h); (· subst h; exact absurd hb105 (show ¬ ((lk1 : Int) < 0) by omega)); (· subst h; exact absurd hb105 (show ¬ ((lk1 : Int) < 0) by omega))
                  refine ws_region rfl ?_
                  refine wl_op (k := 0) (k' := 1) rfl rfl rfl (wo_run rfl rfl (run_fieldAddr rfl rfl Try.underlying38 rfl (ce3) (nf3)) ?_)
                  refine wl_op (k := 1) (k' := 2) rfl rfl rfl (wo_run rfl rfl (run_load1 rfl rfl Try.underlying3 rfl (S14.boxc (i := 3) rfl rfl)) ?_)
                  refine wl_op (k := 2) (k' := 3) rfl rfl rfl (wo_run rfl rfl (run_add rfl rfl rfl (by first | omega | (simp only [List.length_set, List.length_append, List.length_replicate, List.length_singleton, List.length_cons, List.length_nil]; omega))) ?_)
                  refine wl_op (k := 3) (k' := 4) rfl rfl rfl (wo_run rfl rfl (run_fieldAddr rfl rfl Try.underlying38 rfl (ce3) (nf3)) ?_)
                  refine wl_op (k := 4) (k' := 5) rfl rfl rfl (wo_storeB (i := 3) (us := [_]) (l' := [_, _]) (H' := [_, _, _, _, _]) rfl rfl S14 rfl rfl rfl rfl sz3 rfl rfl rfl rfl ?_)
                  intro w19 S22; clear S14
                  refine wl_end rfl ?_
                  refine nm_blk ?_
                  refine nm_sub [(0, _), (1, _), (4, _), (5, _), (6, _), (8, _), (9, _), (10, _)] ⟨rfl, rfl, rfl, rfl, rfl, rfl, rfl, rfl, trivial⟩ ?_
                  refine nm_thn ?_
                  refine ws_region rfl ?_
                  refine wl_op (k := 0) (k' := 1) rfl rfl rfl (wo_run rfl rfl (run_move rfl rfl) ?_)
                  refine wl_op (k := 1) (k' := 2) rfl rfl rfl (wo_run rfl rfl (run_add rfl rfl rfl (by first | omega | (simp only [List.length_set, List.length_append, List.length_replicate, List.length_singleton, List.length_cons, List.length_nil]; omega))) ?_)
                  refine wl_op (k := 2) (k' := 3) rfl rfl rfl (wo_run rfl rfl (run_assign rfl rfl) ?_)
                  refine wl_end rfl ?_
                  refine nm_lp ?_
                  have hcl9 := closeF_ring hcl (by simpa using hb44) (hrg.trans (ringC_stop (by exact hw1)))
                  intro ax_ hax_
                  refine ⟨_, ?hq11m, ⟨p0 + 1, _, _, t1, xa1, lp + 1, _, rfl, hax_.sub ⟨rfl, rfl, rfl, rfl, rfl, rfl, rfl, rfl, trivial⟩, S22.pick [0, 1, 2, 3, 4] [_, _, _, _, _] (by decide) ⟨rfl, rfl, rfl, rfl, rfl, trivial⟩, ?hq11f0, ?hq11f1, ?hq11f2, ?hq11f3, ?hq11f4, ?hq11f5, ?hq11f6⟩⟩
                  case hq11f0 => omega
                  case hq11f1 => first | exact hcl9 | (rw [hcl9]; simp; done) | (rw [hcl9]; simp; rfl)
                  case hq11f2 => assumption
                  case hq11f3 => first | assumption | (rw [tieC_len]; assumption)
                  case hq11f4 => omega
                  case hq11f5 => omega
                  case hq11f6 => first | assumption | exact a4_tie htb1 (by omega) hqq (xa + 1)
                  case hq11m => omega
                · have hb105 := of_decide_eq_false hb105
                  obtain ⟨qq, rfl⟩ : ∃ qq, q1 = qq + 1 := ⟨q1 - 1, by rcases hlq1 with h | h | h; (· subst h; exact absurd (show (-1 : Int) < 0 by omega) hb105); (· omega); (· omega)⟩
                  have hqq : qq = 0 ∨ qq = 1 := by omega
                  have hlkb := hlk1 (by omega)
                  have hg1 := a4_ga htb1 (k := lk1) (by omega)
                  have hg4 : (ga tb1 lk1).length = 4 := by rw [hg1]; rfl
                  have htbl1 : tb1.length = l.length := by rw [htb1]; simpa using htl1
                  refine ws_eq 12 (.int .i64 (lk1 : Int)) rfl rfl ?_
                  refine ws_eq 13 (.int .i64 (qq : Int)) rfl rfl ?_
                  refine ws_region rfl ?_
                  refine wl_op (k := 0) (k' := 1) rfl rfl rfl (wo_run rfl rfl (run_move rfl rfl) ?_)
                  refine wl_op (k := 1) (k' := 2) rfl rfl rfl (wo_run rfl rfl (run_move rfl rfl) ?_)
                  refine wl_op (k := 2) (k' := 3) rfl rfl rfl (wo_run rfl rfl (run_indexR (C := (cdV 22)) (i := 2) lk1 rfl rfl rfl sl27 S14 rfl (by first | rfl | omega) (by first | omega | (simp only [List.length_set, List.length_append, List.length_replicate, List.length_singleton, List.length_cons, List.length_nil]; omega))) ?_)
                  refine wl_op (k := 3) (k' := 4) rfl rfl rfl (wo_run rfl rfl (run_load1 rfl rfl Try.underlying22 rfl (S14.rowc (i := 2) (e := lk1) (j := 0) rfl (by first | omega | (simp only [List.length_set, List.length_append, List.length_replicate, List.length_singleton, List.length_cons, List.length_nil]; omega)) rfl rfl)) ?_)
                  refine wl_op (k := 4) (k' := 5) rfl rfl rfl (wo_run rfl rfl (run_move rfl rfl) ?_)
                  refine wl_op (k := 5) (k' := 6) rfl rfl rfl (wo_run rfl rfl (run_add rfl rfl rfl (by first | omega | (simp only [List.length_set, List.length_append, List.length_replicate, List.length_singleton, List.length_cons, List.length_nil]; omega))) ?_)
                  refine wl_op (k := 6) (k' := 7) rfl rfl rfl (wo_run rfl rfl (run_move rfl rfl) ?_)
                  refine wl_op (k := 7) (k' := 8) rfl rfl rfl (wo_run rfl rfl (run_indexT (C := cdInt) (vs := vs) (xss := tb1) (i := 1) lk1 (2 + qq) rfl rfl rfl rfl sl22 S14 rfl (by first | omega | (simp only [List.length_set, List.length_append, List.length_replicate, List.length_singleton, List.length_cons, List.length_nil]; omega) | (rw [ga_set _ _ _ _ (by first | omega | (simp only [List.length_set]; omega)), if_pos rfl]; simp only [List.length_set]; omega)) (by first | rfl | omega) (by first | omega | (simp only [List.length_set, List.length_append, List.length_replicate, List.length_singleton, List.length_cons, List.length_nil]; omega) | (rw [ga_set _ _ _ _ (by first | omega | (simp only [List.length_set]; omega)), if_pos rfl]; simp only [List.length_set]; omega))) ?_)
                  refine wl_op (k := 8) (k' := 9) rfl rfl rfl (wo_storeT (C := cdInt) (vs := vs) (xss := tb1) (i := 1) (k := lk1) (e := 2 + qq) (j := 0) (us := [_]) (H' := [_, _, _, _, _]) ((xa : Int) + 1) rfl rfl S14 rfl (by first | omega | (simp only [List.length_set, List.length_append, List.length_replicate, List.length_singleton, List.length_cons, List.length_nil]; omega) | (rw [ga_set _ _ _ _ (by first | omega | (simp only [List.length_set]; omega)), if_pos rfl]; simp only [List.length_set]; omega)) (by first | omega | (simp only [List.length_set, List.length_append, List.length_replicate, List.length_singleton, List.length_cons, List.length_nil]; omega) | (rw [ga_set _ _ _ _ (by first | omega | (simp only [List.length_set]; omega)), if_pos rfl]; simp only [List.length_set]; omega)) rfl rfl rfl sz3 rfl rfl rfl rfl ?_)
                  intro w20 S23; clear S14
                  refine wl_end rfl ?_
                  refine nm_blk ?_
                  refine nm_sub [(0, _), (1, _), (4, _), (5, _), (6, _), (8, _), (9, _), (10, _)] ⟨rfl, rfl, rfl, rfl, rfl, rfl, rfl, rfl, trivial⟩ ?_
                  refine nm_thn ?_
                  refine ws_region rfl ?_
                  refine wl_op (k := 0) (k' := 1) rfl rfl rfl (wo_run rfl rfl (run_move rfl rfl) ?_)
                  refine wl_op (k := 1) (k' := 2) rfl rfl rfl (wo_run rfl rfl (run_add rfl rfl rfl (by first | omega | (simp only [List.length_set, List.length_append, List.length_replicate, List.length_singleton, List.length_cons, List.length_nil]; omega))) ?_)
                  refine wl_op (k := 2) (k' := 3) rfl rfl rfl (wo_run rfl rfl (run_assign rfl rfl) ?_)
                  refine wl_end rfl ?_
                  refine nm_lp ?_
                  have hcl9 := closeF_ring hcl (by simpa using hb44) (hrg.trans (ringC_stop (by exact hw1)))
                  intro ax_ hax_
                  refine ⟨_, ?hq12m, ⟨p0 + 1, _, _, (tieC ⟨t1, p1, xa1 + 1, qq + 1, lk1⟩ (xa + 1)), xa1, lp, _, rfl, hax_.sub ⟨rfl, rfl, rfl, rfl, rfl, rfl, rfl, rfl, trivial⟩, S23.pick [0, 1, 2, 3, 4] [_, _, _, _, _] (by decide) ⟨rfl, rfl, rfl, rfl, rfl, trivial⟩, ?hq12f0, ?hq12f1, ?hq12f2, ?hq12f3, ?hq12f4, ?hq12f5, ?hq12f6⟩⟩
                  case hq12f0 => omega
                  case hq12f1 => first | exact hcl9 | (rw [hcl9]; simp; done) | (rw [hcl9]; simp; rfl)
                  case hq12f2 => assumption
                  case hq12f3 => first | assumption | (rw [tieC_len]; assumption)
                  case hq12f4 => omega
                  case hq12f5 => omega
                  case hq12f6 => first | assumption | exact a4_tie htb1 (by omega) hqq (xa + 1)
                  case hq12m => omega
        · have hb38 := of_decide_eq_false hb38
          refine ws_exit rfl rfl ?_
          refine nm_sub [(1, _), (4, _), (5, _), (6, _)] ⟨rfl, rfl, rfl, rfl, trivial⟩ ?_
          refine nm_thn ?_
          refine ws_seqN CloseOf_n101 CloseOf_n102 rfl rfl rfl ?_
          refine ws_seqN CloseOf_n103 CloseOf_n104 rfl rfl rfl ?_
          refine ws_region rfl ?_
          refine wl_op (k := 0) (k' := 1) rfl rfl rfl (wo_run rfl rfl (run_assign rfl rfl) ?_)
          refine wl_end rfl ?_
          refine nm_thn ?_
          refine ws_blockN CloseOf_n105 8 rfl rfl rfl ?_
          have S24 := S13.nilrow cdCr; clear S13
          refine ws_loopE (fun mx_ ax_ wx_ => ∃ (k3 : Nat) (acc : List Cr) (vro : Value), mx_ = l.length - k3 ∧ Env 170 [(1, .slice lA l.length lc), (4, .pointer (some ⟨gb1, 0, none⟩)), (5, .pointer (some ⟨gb2, 0, none⟩)), (6, vri), (18, .int .i64 (k3 : Int))] ax_ ∧ SH wx_ M X [Rs.row cdCr vro acc, Rs.tab cdInt vs tb, Rs.row (cdV 22) vri vs, Rs.box gb2 38 [vro, .int .i64 lp], Rs.box gb1 38 [.slice none 0 0, .int .i64 0]] ∧ k3 ≤ l.length ∧ acc = closeL l t k3) rfl ?_ ?_
          · intro ax_ hax_
            refine ⟨_, ⟨0, _, _, rfl, hax_.sub ⟨rfl, rfl, rfl, rfl, rfl, trivial⟩, S24.pick [0, 2, 3, 4, 5] [_, _, _, _, _] (by decide) ⟨rfl, rfl, rfl, rfl, rfl, trivial⟩, ?hq13f0, ?hq13f1⟩⟩
            case hq13f0 => omega
            case hq13f1 => rfl
          · rintro m5 a5 w21 ⟨k3, acc, vro, rfl, he5, S25, hk3, hacc⟩
            clear S24
            refine ws_in he5 (c := CloseOf_n106) rfl ?_
            clear he5 a5
            have hal : acc.length = k3 := by rw [hacc]; exact closeL_len _ _ _
            have htbl : tb.length = l.length := by rw [htb]; simpa using htl
            have hg3 := fun h => a4_ga htb (k := k3) h
            have hg4 : k3 < l.length → (ga tb k3).length = 4 := fun h => by rw [hg3 (by omega)]; rfl
            refine ws_seqN CloseOf_n107 CloseOf_n108 rfl rfl rfl ?_
            refine ws_seqN CloseOf_n109 CloseOf_n110 rfl rfl rfl ?_
            refine ws_region rfl ?_
            refine wl_op (k := 0) (k' := 1) rfl rfl rfl (wo_run rfl rfl (run_move rfl rfl) ?_)
            refine wl_op (k := 1) (k' := 2) rfl rfl rfl (wo_run rfl rfl (run_move rfl rfl) ?_)
            refine wl_op (k := 2) (k' := 3) rfl rfl rfl (wo_run rfl rfl (run_len rfl rfl rfl rfl rfl rfl Try.underlying22) ?_)
            refine wl_op (k := 3) (k' := 4) rfl rfl rfl (wo_run rfl rfl (run_lss rfl rfl rfl) ?_)
            refine wl_end rfl ?_
            refine nm_sub [(1, _), (4, _), (5, _), (6, _), (18, _), (121, _)] ⟨rfl, rfl, rfl, rfl, rfl, rfl, trivial⟩ ?_
            refine nm_thn ?_
            refine ws_condN CloseOf_n111 CloseOf_n112 rfl rfl rfl rfl (fun hb121 => ?_) (fun hb121 => ?_)
            · have hb121 := of_decide_eq_true hb121
              refine ws_skip rfl ?_
              refine nm_sub [(1, _), (4, _), (5, _), (6, _), (18, _)] ⟨rfl, rfl, rfl, rfl, rfl, trivial⟩ ?_
              refine nm_thn ?_
              refine ws_seqN CloseOf_n113 CloseOf_n114 rfl rfl rfl ?_
              refine ws_blockN CloseOf_n115 9 rfl rfl rfl ?_
              refine ws_seqN CloseOf_n116 CloseOf_n117 rfl rfl rfl ?_
              refine ws_region rfl ?_
              refine wl_op (k := 0) (k' := 1) rfl rfl rfl (wo_run rfl rfl (run_move rfl rfl) ?_)
              refine wl_op (k := 1) (k' := 2) rfl rfl rfl (wo_run rfl rfl (run_move rfl rfl) ?_)
              refine wl_op (k := 2) (k' := 3) rfl rfl rfl (wo_run rfl rfl (run_indexR (C := (cdV 22)) (i := 2) k3 rfl rfl rfl sl27 S25 rfl (by first | rfl | omega) (by first | omega | (simp only [List.length_set, List.length_append, List.length_replicate, List.length_singleton, List.length_cons, List.length_nil]; omega))) ?_)
              refine wl_op (k := 3) (k' := 4) rfl rfl rfl (wo_run rfl rfl (run_load1 rfl rfl Try.underlying22 rfl (S25.rowc (i := 2) (e := k3) (j := 0) rfl (by first | omega | (simp only [List.length_set, List.length_append, List.length_replicate, List.length_singleton, List.length_cons, List.length_nil]; omega)) rfl rfl)) ?_)
              refine wl_op (k := 4) (k' := 5) rfl rfl rfl (wo_run rfl rfl (run_assign rfl rfl) ?_)
              refine wl_end rfl ?_
              refine nm_sub [(1, _), (4, _), (5, _), (6, _), (18, _), (19, _)] ⟨rfl, rfl, rfl, rfl, rfl, rfl, trivial⟩ ?_
              refine nm_thn ?_
              refine ws_seqN CloseOf_n118 CloseOf_n119 rfl rfl rfl ?_
              refine ws_region rfl ?_
              refine wl_op (k := 0) (k' := 1) rfl rfl rfl (wo_run rfl rfl (run_move rfl rfl) ?_)
              refine wl_op (k := 1) (k' := 2) rfl rfl rfl (wo_run rfl rfl (run_move rfl rfl) ?_)
              refine wl_op (k := 2) (k' := 3) rfl rfl rfl (wo_run rfl rfl (run_indexM (C := cdInt) k3 rfl rfl rfl sl22 (by first | rfl | omega) hl (by first | omega | (simp only [List.length_set, List.length_append, List.length_replicate, List.length_singleton, List.length_cons, List.length_nil]; omega))) ?_)
              refine wl_op (k := 3) (k' := 4) rfl rfl rfl (wo_run rfl rfl (run_load1 rfl rfl Try.underlying3 rfl (hl.cell S25.um (i := k3) (by first | omega | (simp only [List.length_set, List.length_append, List.length_replicate, List.length_singleton, List.length_cons, List.length_nil]; omega)) 0 rfl rfl)) ?_)
              refine wl_op (k := 4) (k' := 5) rfl rfl rfl (wo_run rfl rfl (run_gtr rfl rfl rfl) ?_)
              refine wl_end rfl ?_
              refine nm_sub [(1, _), (4, _), (5, _), (6, _), (18, _), (19, _), (132, _)] ⟨rfl, rfl, rfl, rfl, rfl, rfl, rfl, trivial⟩ ?_
              refine nm_thn ?_
              refine ws_condN CloseOf_n120 CloseOf_n121 rfl rfl rfl rfl (fun hb132 => ?_) (fun hb132 => ?_)
              · have hb132 := of_decide_eq_true hb132
                refine ws_draw rfl (by kernel_rfl) S25 19 rfl ?_
                clear S25
                refine wa_takeP (i := 0) (d := 133) 18 rfl (by kernel_rfl) (by kernel_rfl) (by kernel_rfl) rfl rfl rfl (fun w22 => run_fieldAddr rfl rfl Try.underlying38 rfl (ce36) (nf36)) ?_
                refine wa_take (i := 1) (d := 134) 17 rfl (by kernel_rfl) (by kernel_rfl) (by kernel_rfl) rfl rfl rfl (fun M2 N2 w23 hle7 S27 => .inl (run_load1 rfl rfl Try.underlying36 rfl (S27.suf.boxc (i := 3) rfl rfl))) ?_
                refine wa_takeP (i := 2) (d := 135) 16 rfl (by kernel_rfl) (by kernel_rfl) (by kernel_rfl) rfl rfl rfl (fun w24 => run_move rfl rfl) ?_
                refine wa_take (i := 3) (d := 136) 15 rfl (by kernel_rfl) (by kernel_rfl) (by kernel_rfl) rfl rfl rfl (fun M4 N4 w25 hle9 S29 => .inl (run_indexT (C := cdInt) (vs := vs) (xss := tb) (i := 1) k3 1 rfl rfl rfl rfl sl22 S29.suf rfl (by first | omega | (simp only [List.length_set, List.length_append, List.length_replicate, List.length_singleton, List.length_cons, List.length_nil]; omega) | (rw [ga_set _ _ _ _ (by first | omega | (simp only [List.length_set]; omega)), if_pos rfl]; simp only [List.length_set]; omega)) (by first | rfl | omega) (by first | omega | (simp only [List.length_set, List.length_append, List.length_replicate, List.length_singleton, List.length_cons, List.length_nil]; omega) | (rw [ga_set _ _ _ _ (by first | omega | (simp only [List.length_set]; omega)), if_pos rfl]; simp only [List.length_set]; omega)))) ?_
                refine wa_take (i := 4) (d := 137) 14 rfl (by kernel_rfl) (by kernel_rfl) (by kernel_rfl) rfl rfl rfl (fun M5 N5 w26 hle10 S30 => .inl (run_load1 rfl rfl Try.underlying3 rfl (S30.suf.tabc (i := 1) (k := k3) (e := 1) (j := 0) rfl (by first | omega | (simp only [List.length_set, List.length_append, List.length_replicate, List.length_singleton, List.length_cons, List.length_nil]; omega) | (rw [ga_set _ _ _ _ (by first | omega | (simp only [List.length_set]; omega)), if_pos rfl]; simp only [List.length_set]; omega)) (by first | omega | (simp only [List.length_set, List.length_append, List.length_replicate, List.length_singleton, List.length_cons, List.length_nil]; omega) | (rw [ga_set _ _ _ _ (by first | omega | (simp only [List.length_set]; omega)), if_pos rfl]; simp only [List.length_set]; omega)) rfl rfl))) ?_
                refine wa_takeP (i := 5) (d := 138) 13 rfl (by kernel_rfl) (by kernel_rfl) (by kernel_rfl) rfl rfl rfl (fun w27 => run_move rfl rfl) ?_
                refine wa_take (i := 6) (d := 139) 12 rfl (by kernel_rfl) (by kernel_rfl) (by kernel_rfl) rfl rfl rfl (fun M7 N7 w28 hle12 S32 => .inl (run_indexT (C := cdInt) (vs := vs) (xss := tb) (i := 1) k3 2 rfl rfl rfl rfl sl22 S32.suf rfl (by first | omega | (simp only [List.length_set, List.length_append, List.length_replicate, List.length_singleton, List.length_cons, List.length_nil]; omega) | (rw [ga_set _ _ _ _ (by first | omega | (simp only [List.length_set]; omega)), if_pos rfl]; simp only [List.length_set]; omega)) (by first | rfl | omega) (by first | omega | (simp only [List.length_set, List.length_append, List.length_replicate, List.length_singleton, List.length_cons, List.length_nil]; omega) | (rw [ga_set _ _ _ _ (by first | omega | (simp only [List.length_set]; omega)), if_pos rfl]; simp only [List.length_set]; omega)))) ?_
                refine wa_take (i := 7) (d := 140) 11 rfl (by kernel_rfl) (by kernel_rfl) (by kernel_rfl) rfl rfl rfl (fun M8 N8 w29 hle13 S33 => .inl (run_load1 rfl rfl Try.underlying3 rfl (S33.suf.tabc (i := 1) (k := k3) (e := 2) (j := 0) rfl (by first | omega | (simp only [List.length_set, List.length_append, List.length_replicate, List.length_singleton, List.length_cons, List.length_nil]; omega) | (rw [ga_set _ _ _ _ (by first | omega | (simp only [List.length_set]; omega)), if_pos rfl]; simp only [List.length_set]; omega)) (by first | omega | (simp only [List.length_set, List.length_append, List.length_replicate, List.length_singleton, List.length_cons, List.length_nil]; omega) | (rw [ga_set _ _ _ _ (by first | omega | (simp only [List.length_set]; omega)), if_pos rfl]; simp only [List.length_set]; omega)) rfl rfl))) ?_
                refine wa_takeP (i := 8) (d := 141) 10 rfl (by kernel_rfl) (by kernel_rfl) (by kernel_rfl) rfl rfl rfl (fun w30 => run_move rfl rfl) ?_
                refine wa_take (i := 9) (d := 142) 9 rfl (by kernel_rfl) (by kernel_rfl) (by kernel_rfl) rfl rfl rfl (fun M10 N10 w31 hle15 S35 => .inl (run_indexT (C := cdInt) (vs := vs) (xss := tb) (i := 1) k3 3 rfl rfl rfl rfl sl22 S35.suf rfl (by first | omega | (simp only [List.length_set, List.length_append, List.length_replicate, List.length_singleton, List.length_cons, List.length_nil]; omega) | (rw [ga_set _ _ _ _ (by first | omega | (simp only [List.length_set]; omega)), if_pos rfl]; simp only [List.length_set]; omega)) (by first | rfl | omega) (by first | omega | (simp only [List.length_set, List.length_append, List.length_replicate, List.length_singleton, List.length_cons, List.length_nil]; omega) | (rw [ga_set _ _ _ _ (by first | omega | (simp only [List.length_set]; omega)), if_pos rfl]; simp only [List.length_set]; omega)))) ?_
                refine wa_take (i := 10) (d := 143) 8 rfl (by kernel_rfl) (by kernel_rfl) (by kernel_rfl) rfl rfl rfl (fun M11 N11 w32 hle16 S36 => .inl (run_load1 rfl rfl Try.underlying3 rfl (S36.suf.tabc (i := 1) (k := k3) (e := 3) (j := 0) rfl (by first | omega | (simp only [List.length_set, List.length_append, List.length_replicate, List.length_singleton, List.length_cons, List.length_nil]; omega) | (rw [ga_set _ _ _ _ (by first | omega | (simp only [List.length_set]; omega)), if_pos rfl]; simp only [List.length_set]; omega)) (by first | omega | (simp only [List.length_set, List.length_append, List.length_replicate, List.length_singleton, List.length_cons, List.length_nil]; omega) | (rw [ga_set _ _ _ _ (by first | omega | (simp only [List.length_set]; omega)), if_pos rfl]; simp only [List.length_set]; omega)) rfl rfl))) ?_
                refine wa_takeP (i := 11) (d := 144) 7 rfl (by kernel_rfl) (by kernel_rfl) (by kernel_rfl) rfl rfl rfl (fun w33 => run_move rfl rfl) ?_
                refine wa_take (i := 12) (d := 145) 6 rfl (by kernel_rfl) (by kernel_rfl) (by kernel_rfl) rfl rfl rfl (fun M13 N13 w34 hle18 S38 => .inl (run_indexT (C := cdInt) (vs := vs) (xss := tb) (i := 1) k3 0 rfl rfl rfl rfl sl22 S38.suf rfl (by first | omega | (simp only [List.length_set, List.length_append, List.length_replicate, List.length_singleton, List.length_cons, List.length_nil]; omega) | (rw [ga_set _ _ _ _ (by first | omega | (simp only [List.length_set]; omega)), if_pos rfl]; simp only [List.length_set]; omega)) (by first | rfl | omega) (by first | omega | (simp only [List.length_set, List.length_append, List.length_replicate, List.length_singleton, List.length_cons, List.length_nil]; omega) | (rw [ga_set _ _ _ _ (by first | omega | (simp only [List.length_set]; omega)), if_pos rfl]; simp only [List.length_set]; omega)))) ?_
                refine wa_take (i := 13) (d := 146) 5 rfl (by kernel_rfl) (by kernel_rfl) (by kernel_rfl) rfl rfl rfl (fun M14 N14 w35 hle19 S39 => .inl (run_load1 rfl rfl Try.underlying3 rfl (S39.suf.tabc (i := 1) (k := k3) (e := 0) (j := 0) rfl (by first | omega | (simp only [List.length_set, List.length_append, List.length_replicate, List.length_singleton, List.length_cons, List.length_nil]; omega) | (rw [ga_set _ _ _ _ (by first | omega | (simp only [List.length_set]; omega)), if_pos rfl]; simp only [List.length_set]; omega)) (by first | omega | (simp only [List.length_set, List.length_append, List.length_replicate, List.length_singleton, List.length_cons, List.length_nil]; omega) | (rw [ga_set _ _ _ _ (by first | omega | (simp only [List.length_set]; omega)), if_pos rfl]; simp only [List.length_set]; omega)) rfl rfl))) ?_
                refine wa_take (i := 14) (d := 147) 4 rfl (by kernel_rfl) (by kernel_rfl) (by kernel_rfl) rfl rfl rfl (fun M15 N15 w36 hle20 S40 => .inl (run_build (l := [_, _, _, _, _]) rfl rfl st63 rfl rfl)) ?_
                refine wa_only (i := 15) 3 rfl (by kernel_rfl) rfl rfl (fun w38 S42 => ?_)
                refine (wo_buildSlice1 (C := cdCr) (l := [_, _, _, _, _]) rfl rfl rfl rfl sl36 rfl rfl rfl rfl S42 ?_)
                intro gb4 w39 S43; clear S42
                refine LeftW.grow [_] (Hp.le_refl _) S43 ?_; clear S43
                change WA _ _ _ _ _ _ _ _ _ _ _ _ [_, _, _, _, _, _]
                refine wa_only (i := 16) 2 rfl (by kernel_rfl) rfl rfl (fun w41 S45 => ?_)
                refine (wo_append1 (C := cdCr) (i := 1) (q := 0) (⟨ga (ga tb k3) 1, ga (ga tb k3) 2, ga (ga tb k3) 3, ga (ga tb k3) 0, true⟩ : Cr) rfl rfl rfl rfl rfl rfl rfl rfl sl36 S45 rfl rfl rfl (by show (_ + 1) * 40 ≤ _; first | omega | (simp only [List.length_set, List.length_append, List.length_replicate, List.length_singleton, List.length_cons, List.length_nil]; omega)) ?_)
                intro vro1 w42 S46; clear S45
                have S47 := S46.pick [1, 2, 3, 4, 5] [_, _, _, _, _] (by decide) ⟨rfl, rfl, rfl, rfl, rfl, trivial⟩; clear S46
                refine LeftW.turn (by kernel_rfl) S47 ?_; clear S47
                change WA _ _ _ _ _ _ _ _ _ _ _ _ [_, _, _, _, _]
                refine wa_takeP (i := 17) (d := 150) 1 rfl (by kernel_rfl) (by kernel_rfl) (by kernel_rfl) rfl rfl rfl (fun w43 => run_fieldAddr rfl rfl Try.underlying38 rfl (ce36) (nf36)) ?_
                refine wa_only (i := 18) 0 rfl (by kernel_rfl) rfl rfl (fun w45 S50 => ?_)
                refine (wo_storeB (i := 3) (us := [_]) (l' := [_, _]) (H' := [_, _, _, _, _]) rfl rfl S50 rfl rfl rfl (S50.cells1 (i := 0) rfl) sz36 rfl (ones_cons (S50.one (i := 0) rfl) rfl) rfl rfl ?_)
                intro w46 S51; clear S50
                refine LeftW.turn (by kernel_rfl) S51 ?_; clear S51
                change WA _ _ _ _ _ _ _ _ _ _ _ _ [_, _, _, _, _]
                refine wa_end (by kernel_rfl) (fun w47 S52 => ?_)
                refine nm_blk ?_
                refine nm_sub [(1, _), (4, _), (5, _), (6, _), (18, _)] ⟨rfl, rfl, rfl, rfl, rfl, trivial⟩ ?_
                refine nm_thn ?_
                refine ws_region rfl ?_
                refine wl_op (k := 0) (k' := 1) rfl rfl rfl (wo_run rfl rfl (run_move rfl rfl) ?_)
                refine wl_op (k := 1) (k' := 2) rfl rfl rfl (wo_run rfl rfl (run_add rfl rfl rfl (by first | omega | (simp only [List.length_set, List.length_append, List.length_replicate, List.length_singleton, List.length_cons, List.length_nil]; omega))) ?_)
                refine wl_op (k := 2) (k' := 3) rfl rfl rfl (wo_run rfl rfl (run_assign rfl rfl) ?_)
                refine wl_end rfl ?_
                refine nm_lp ?_
                intro ax_ hax_
                refine ⟨_, ?hq14m, ⟨k3 + 1, _, _, rfl, hax_.sub ⟨rfl, rfl, rfl, rfl, rfl, trivial⟩, S52.pick [0, 1, 2, 3, 4] [_, _, _, _, _] (by decide) ⟨rfl, rfl, rfl, rfl, rfl, trivial⟩, ?hq14f0, ?hq14f1⟩⟩
                case hq14f0 => omega
                case hq14f1 => (rw [closeL_succ, ← hacc, hg3 (by omega)]; unfold crC; first | (rw [if_pos (by omega)]; rfl) | (rw [if_neg (by omega)]; rfl))
                case hq14m => omega
              · have hb132 := of_decide_eq_false hb132
                refine ws_draw rfl (by kernel_rfl) S25 19 rfl ?_
                clear S25
                refine wa_takeP (i := 0) (d := 151) 18 rfl (by kernel_rfl) (by kernel_rfl) (by kernel_rfl) rfl rfl rfl (fun w48 => run_fieldAddr rfl rfl Try.underlying38 rfl (ce36) (nf36)) ?_
                refine wa_take (i := 1) (d := 152) 17 rfl (by kernel_rfl) (by kernel_rfl) (by kernel_rfl) rfl rfl rfl (fun M21 N21 w49 hle26 S54 => .inl (run_load1 rfl rfl Try.underlying36 rfl (S54.suf.boxc (i := 3) rfl rfl))) ?_
                refine wa_takeP (i := 2) (d := 153) 16 rfl (by kernel_rfl) (by kernel_rfl) (by kernel_rfl) rfl rfl rfl (fun w50 => run_move rfl rfl) ?_
                refine wa_take (i := 3) (d := 154) 15 rfl (by kernel_rfl) (by kernel_rfl) (by kernel_rfl) rfl rfl rfl (fun M23 N23 w51 hle28 S56 => .inl (run_indexT (C := cdInt) (vs := vs) (xss := tb) (i := 1) k3 0 rfl rfl rfl rfl sl22 S56.suf rfl (by first | omega | (simp only [List.length_set, List.length_append, List.length_replicate, List.length_singleton, List.length_cons, List.length_nil]; omega) | (rw [ga_set _ _ _ _ (by first | omega | (simp only [List.length_set]; omega)), if_pos rfl]; simp only [List.length_set]; omega)) (by first | rfl | omega) (by first | omega | (simp only [List.length_set, List.length_append, List.length_replicate, List.length_singleton, List.length_cons, List.length_nil]; omega) | (rw [ga_set _ _ _ _ (by first | omega | (simp only [List.length_set]; omega)), if_pos rfl]; simp only [List.length_set]; omega)))) ?_
                refine wa_take (i := 4) (d := 155) 14 rfl (by kernel_rfl) (by kernel_rfl) (by kernel_rfl) rfl rfl rfl (fun M24 N24 w52 hle29 S57 => .inl (run_load1 rfl rfl Try.underlying3 rfl (S57.suf.tabc (i := 1) (k := k3) (e := 0) (j := 0) rfl (by first | omega | (simp only [List.length_set, List.length_append, List.length_replicate, List.length_singleton, List.length_cons, List.length_nil]; omega) | (rw [ga_set _ _ _ _ (by first | omega | (simp only [List.length_set]; omega)), if_pos rfl]; simp only [List.length_set]; omega)) (by first | omega | (simp only [List.length_set, List.length_append, List.length_replicate, List.length_singleton, List.length_cons, List.length_nil]; omega) | (rw [ga_set _ _ _ _ (by first | omega | (simp only [List.length_set]; omega)), if_pos rfl]; simp only [List.length_set]; omega)) rfl rfl))) ?_
                refine wa_takeP (i := 5) (d := 156) 13 rfl (by kernel_rfl) (by kernel_rfl) (by kernel_rfl) rfl rfl rfl (fun w53 => run_move rfl rfl) ?_
                refine wa_take (i := 6) (d := 157) 12 rfl (by kernel_rfl) (by kernel_rfl) (by kernel_rfl) rfl rfl rfl (fun M26 N26 w54 hle31 S59 => .inl (run_indexT (C := cdInt) (vs := vs) (xss := tb) (i := 1) k3 1 rfl rfl rfl rfl sl22 S59.suf rfl (by first | omega | (simp only [List.length_set, List.length_append, List.length_replicate, List.length_singleton, List.length_cons, List.length_nil]; omega) | (rw [ga_set _ _ _ _ (by first | omega | (simp only [List.length_set]; omega)), if_pos rfl]; simp only [List.length_set]; omega)) (by first | rfl | omega) (by first | omega | (simp only [List.length_set, List.length_append, List.length_replicate, List.length_singleton, List.length_cons, List.length_nil]; omega) | (rw [ga_set _ _ _ _ (by first | omega | (simp only [List.length_set]; omega)), if_pos rfl]; simp only [List.length_set]; omega)))) ?_
                refine wa_take (i := 7) (d := 158) 11 rfl (by kernel_rfl) (by kernel_rfl) (by kernel_rfl) rfl rfl rfl (fun M27 N27 w55 hle32 S60 => .inl (run_load1 rfl rfl Try.underlying3 rfl (S60.suf.tabc (i := 1) (k := k3) (e := 1) (j := 0) rfl (by first | omega | (simp only [List.length_set, List.length_append, List.length_replicate, List.length_singleton, List.length_cons, List.length_nil]; omega) | (rw [ga_set _ _ _ _ (by first | omega | (simp only [List.length_set]; omega)), if_pos rfl]; simp only [List.length_set]; omega)) (by first | omega | (simp only [List.length_set, List.length_append, List.length_replicate, List.length_singleton, List.length_cons, List.length_nil]; omega) | (rw [ga_set _ _ _ _ (by first | omega | (simp only [List.length_set]; omega)), if_pos rfl]; simp only [List.length_set]; omega)) rfl rfl))) ?_
                refine wa_takeP (i := 8) (d := 159) 10 rfl (by kernel_rfl) (by kernel_rfl) (by kernel_rfl) rfl rfl rfl (fun w56 => run_move rfl rfl) ?_
                refine wa_take (i := 9) (d := 160) 9 rfl (by kernel_rfl) (by kernel_rfl) (by kernel_rfl) rfl rfl rfl (fun M29 N29 w57 hle34 S62 => .inl (run_indexT (C := cdInt) (vs := vs) (xss := tb) (i := 1) k3 2 rfl rfl rfl rfl sl22 S62.suf rfl (by first | omega | (simp only [List.length_set, List.length_append, List.length_replicate, List.length_singleton, List.length_cons, List.length_nil]; omega) | (rw [ga_set _ _ _ _ (by first | omega | (simp only [List.length_set]; omega)), if_pos rfl]; simp only [List.length_set]; omega)) (by first | rfl | omega) (by first | omega | (simp only [List.length_set, List.length_append, List.length_replicate, List.length_singleton, List.length_cons, List.length_nil]; omega) | (rw [ga_set _ _ _ _ (by first | omega | (simp only [List.length_set]; omega)), if_pos rfl]; simp only [List.length_set]; omega)))) ?_
                refine wa_take (i := 10) (d := 161) 8 rfl (by kernel_rfl) (by kernel_rfl) (by kernel_rfl) rfl rfl rfl (fun M30 N30 w58 hle35 S63 => .inl (run_load1 rfl rfl Try.underlying3 rfl (S63.suf.tabc (i := 1) (k := k3) (e := 2) (j := 0) rfl (by first | omega | (simp only [List.length_set, List.length_append, List.length_replicate, List.length_singleton, List.length_cons, List.length_nil]; omega) | (rw [ga_set _ _ _ _ (by first | omega | (simp only [List.length_set]; omega)), if_pos rfl]; simp only [List.length_set]; omega)) (by first | omega | (simp only [List.length_set, List.length_append, List.length_replicate, List.length_singleton, List.length_cons, List.length_nil]; omega) | (rw [ga_set _ _ _ _ (by first | omega | (simp only [List.length_set]; omega)), if_pos rfl]; simp only [List.length_set]; omega)) rfl rfl))) ?_
                refine wa_takeP (i := 11) (d := 162) 7 rfl (by kernel_rfl) (by kernel_rfl) (by kernel_rfl) rfl rfl rfl (fun w59 => run_move rfl rfl) ?_
                refine wa_take (i := 12) (d := 163) 6 rfl (by kernel_rfl) (by kernel_rfl) (by kernel_rfl) rfl rfl rfl (fun M32 N32 w60 hle37 S65 => .inl (run_indexT (C := cdInt) (vs := vs) (xss := tb) (i := 1) k3 3 rfl rfl rfl rfl sl22 S65.suf rfl (by first | omega | (simp only [List.length_set, List.length_append, List.length_replicate, List.length_singleton, List.length_cons, List.length_nil]; omega) | (rw [ga_set _ _ _ _ (by first | omega | (simp only [List.length_set]; omega)), if_pos rfl]; simp only [List.length_set]; omega)) (by first | rfl | omega) (by first | omega | (simp only [List.length_set, List.length_append, List.length_replicate, List.length_singleton, List.length_cons, List.length_nil]; omega) | (rw [ga_set _ _ _ _ (by first | omega | (simp only [List.length_set]; omega)), if_pos rfl]; simp only [List.length_set]; omega)))) ?_
                refine wa_take (i := 13) (d := 164) 5 rfl (by kernel_rfl) (by kernel_rfl) (by kernel_rfl) rfl rfl rfl (fun M33 N33 w61 hle38 S66 => .inl (run_load1 rfl rfl Try.underlying3 rfl (S66.suf.tabc (i := 1) (k := k3) (e := 3) (j := 0) rfl (by first | omega | (simp only [List.length_set, List.length_append, List.length_replicate, List.length_singleton, List.length_cons, List.length_nil]; omega) | (rw [ga_set _ _ _ _ (by first | omega | (simp only [List.length_set]; omega)), if_pos rfl]; simp only [List.length_set]; omega)) (by first | omega | (simp only [List.length_set, List.length_append, List.length_replicate, List.length_singleton, List.length_cons, List.length_nil]; omega) | (rw [ga_set _ _ _ _ (by first | omega | (simp only [List.length_set]; omega)), if_pos rfl]; simp only [List.length_set]; omega)) rfl rfl))) ?_
                refine wa_take (i := 14) (d := 165) 4 rfl (by kernel_rfl) (by kernel_rfl) (by kernel_rfl) rfl rfl rfl (fun M34 N34 w62 hle39 S67 => .inl (run_build (l := [_, _, _, _, _]) rfl rfl st63 rfl rfl)) ?_
                refine wa_only (i := 15) 3 rfl (by kernel_rfl) rfl rfl (fun w64 S69 => ?_)
                refine (wo_buildSlice1 (C := cdCr) (l := [_, _, _, _, _]) rfl rfl rfl rfl sl36 rfl rfl rfl rfl S69 ?_)
                intro gb5 w65 S70; clear S69
                refine LeftW.grow [_] (Hp.le_refl _) S70 ?_; clear S70
                change WA _ _ _ _ _ _ _ _ _ _ _ _ [_, _, _, _, _, _]
                refine wa_only (i := 16) 2 rfl (by kernel_rfl) rfl rfl (fun w67 S72 => ?_)
                refine (wo_append1 (C := cdCr) (i := 1) (q := 0) (⟨ga (ga tb k3) 0, ga (ga tb k3) 1, ga (ga tb k3) 2, ga (ga tb k3) 3, false⟩ : Cr) rfl rfl rfl rfl rfl rfl rfl rfl sl36 S72 rfl rfl rfl (by show (_ + 1) * 40 ≤ _; first | omega | (simp only [List.length_set, List.length_append, List.length_replicate, List.length_singleton, List.length_cons, List.length_nil]; omega)) ?_)
                intro vro2 w68 S73; clear S72
                have S74 := S73.pick [1, 2, 3, 4, 5] [_, _, _, _, _] (by decide) ⟨rfl, rfl, rfl, rfl, rfl, trivial⟩; clear S73
                refine LeftW.turn (by kernel_rfl) S74 ?_; clear S74
                change WA _ _ _ _ _ _ _ _ _ _ _ _ [_, _, _, _, _]
                refine wa_takeP (i := 17) (d := 168) 1 rfl (by kernel_rfl) (by kernel_rfl) (by kernel_rfl) rfl rfl rfl (fun w69 => run_fieldAddr rfl rfl Try.underlying38 rfl (ce36) (nf36)) ?_
                refine wa_only (i := 18) 0 rfl (by kernel_rfl) rfl rfl (fun w71 S77 => ?_)
                refine (wo_storeB (i := 3) (us := [_]) (l' := [_, _]) (H' := [_, _, _, _, _]) rfl rfl S77 rfl rfl rfl (S77.cells1 (i := 0) rfl) sz36 rfl (ones_cons (S77.one (i := 0) rfl) rfl) rfl rfl ?_)
                intro w72 S78; clear S77
                refine LeftW.turn (by kernel_rfl) S78 ?_; clear S78
                change WA _ _ _ _ _ _ _ _ _ _ _ _ [_, _, _, _, _]
                refine wa_end (by kernel_rfl) (fun w73 S79 => ?_)
                refine nm_blk ?_
                refine nm_sub [(1, _), (4, _), (5, _), (6, _), (18, _)] ⟨rfl, rfl, rfl, rfl, rfl, trivial⟩ ?_
                refine nm_thn ?_
                refine ws_region rfl ?_
                refine wl_op (k := 0) (k' := 1) rfl rfl rfl (wo_run rfl rfl (run_move rfl rfl) ?_)
                refine wl_op (k := 1) (k' := 2) rfl rfl rfl (wo_run rfl rfl (run_add rfl rfl rfl (by first | omega | (simp only [List.length_set, List.length_append, List.length_replicate, List.length_singleton, List.length_cons, List.length_nil]; omega))) ?_)
                refine wl_op (k := 2) (k' := 3) rfl rfl rfl (wo_run rfl rfl (run_assign rfl rfl) ?_)
                refine wl_end rfl ?_
                refine nm_lp ?_
                intro ax_ hax_
                refine ⟨_, ?hq15m, ⟨k3 + 1, _, _, rfl, hax_.sub ⟨rfl, rfl, rfl, rfl, rfl, trivial⟩, S79.pick [0, 1, 2, 3, 4] [_, _, _, _, _] (by decide) ⟨rfl, rfl, rfl, rfl, rfl, trivial⟩, ?hq15f0, ?hq15f1⟩⟩
                case hq15f0 => omega
                case hq15f1 => (rw [closeL_succ, ← hacc, hg3 (by omega)]; unfold crC; first | (rw [if_pos (by omega)]; rfl) | (rw [if_neg (by omega)]; rfl))
                case hq15m => omega
            · have hb121 := of_decide_eq_false hb121
              refine ws_exit rfl rfl ?_
              refine nm_sub [(4, _), (5, _)] ⟨rfl, rfl, trivial⟩ ?_
              refine nm_thn ?_
              refine ws_seqN CloseOf_n122 CloseOf_n123 rfl rfl rfl ?_
              refine ws_region rfl ?_
              refine wl_op (k := 0) (k' := 1) rfl rfl rfl (wo_run rfl rfl (run_loadN (us := [_, _]) rfl rfl Try.underlying38 rfl sz38 (S25.boxcs (i := 3) rfl ⟨rfl, rfl, trivial⟩)) ?_)
              refine wl_op (k := 1) (k' := 2) rfl rfl rfl (wo_storeB (i := 4) (us := [_, _]) (l' := [_, _]) (H' := [_, _, _, _, _]) rfl rfl S25 rfl rfl rfl rfl sz38 rfl (ones_cons (S25.one (i := 0) rfl) (ones_cons rfl rfl)) rfl rfl ?_)
              intro w74 S80; clear S25
              refine wl_end rfl ?_
              refine nm_sub [(4, _)] ⟨rfl, trivial⟩ ?_
              refine nm_thn ?_
              obtain ⟨M39, hle44, S81, ⟨A1, c1, e1, hr1⟩⟩ := S80.pubrow (i := 0) (H' := [_, _, _, _, _]) rfl rfl (by show _ * 40 ≤ _; first | omega | (simp only [List.length_set, List.length_append, List.length_replicate, List.length_singleton, List.length_cons, List.length_nil]; omega))
              clear S80; subst e1
              replace hl := hl.mono (Hp.un_mono hle44 S81.mx)
              refine ws_ret hC [_] rfl rfl ⟨⟨_, rfl, loadVarN (us := [_, _]) Try.underlying38 rfl sz38 (S81.boxcs (i := 4) rfl ⟨rfl, rfl, trivial⟩)⟩, trivial⟩ ?_
              refine ⟨_, rfl, _, hle44, (S81.pick [] [] (by decide) trivial), ?_⟩
              obtain rfl : p0 = m := by omega
              obtain rfl : k3 = l.length := by omega
              have e : closeD p0 l = ⟨acc, lp⟩ := by unfold closeD; rw [hcl, hacc]
              rw [e]
              exact ⟨_, _, rfl, hr1⟩

end Go.Proofs.Ythfiblbkkjcliaa
