/- Part 6 of the proof of the law ClosureTables: the walks through its functions and the plain laws that they need. -/
import Derived.Test.YtkcighnochjlgaaCtZ5
import Derived.Lib.SmallJoins
import Derived.Deep.Slices
import Derived.Deep.Fields
import Derived.ChangeSame
set_option linter.unusedSimpArgs false
set_option linter.unusedVariables false
namespace Go.Proofs.Ytkcighnochjlgaa
open Go.ChangeShapes Go.WideShapes Go.ChangeAt Go.RowKit
theorem can_one {e c : Int} (he : -1 ≤ e ∧ e ≤ 1) (hc : c ≠ 0 ∧ -1 ≤ c ∧ c ≤ 1) : Can [⟨e, c⟩] := ⟨List.pairwise_singleton _ _, fun t ht => by
 simp only [List.mem_cons, List.not_mem_nil, or_false] at ht
 subst ht; exact ⟨hc.1, wr_id (by dsimp only; omega), wr_id (by dsimp only; omega)⟩⟩
theorem bd_le {l : List Tm} (h : ∀ t ∈ l, -1 ≤ t.e ∧ t.e ≤ 1) : Bd l 1 := fun t ht => by have := h t ht; omega
theorem len_put2 {β : Type} [Inhabited β] (ps : List (List β)) (i k k2 : Nat) (x y : β) (hi : i < ps.length) (q : Nat) : (ga ((ps.set i ((ga ps i).set k x)).set i ((ga (ps.set i ((ga ps i).set k x)) i).set k2 y)) q).length = (ga ps q).length := by
 rw [len_put _ _ _ _ (by rw [List.length_set]; exact hi), len_put _ _ _ _ hi]
theorem pr2 : mk (pr [⟨0, 1⟩, ⟨1, -1⟩]) = Pol.i + mono 1 (-1) := rfl
theorem pr1 (e c : Int) : mk (pr [⟨e, c⟩]) = mono e c := rfl
theorem pra : mk (pr [⟨0, 1⟩]) + mk (pr [⟨-1, 1⟩]) * mono 0 (-1) = Pol.i + mono (-1) (-1) := rfl
/-- What stands at a place of the document's table. -/
def BuL (l : List Int) (B : Nat) (p : Pol) (x : List Tm) : Prop := Can x ∧ Bd x B ∧ mk (pr x) = p
theorem bu_rowL {l : List Int} {m j r B B' : Nat} {mm : List (List (List Tm))} {X Y : List Tm} (hX : BuL l B' (buX (ga l j) (buN l j r (ix (ga l j))) (buN l j r (ix (ga l j) + 1))) X) (hY : BuL l B' (buY (ga l j) (buN l j r (ix (ga l j))) (buN l j r (ix (ga l j) + 1))) Y)
  (h : ∀ q, q < m → ∀ c, c < m → BuL l B (if q < r then buN l (j + 1) q c else buN l j q c) (ga (ga mm q) c)) (hB : B ≤ B') (hr : r < m) (hi : ix (ga l j) + 1 < m) (hl : mm.length = m) (hlr : (ga mm r).length = m) :
  ∀ q, q < m → ∀ c, c < m → BuL l B' (if q < r + 1 then buN l (j + 1) q c else buN l j q c) (ga (ga ((mm.set r ((ga mm r).set (ix (ga l j)) X)).set r ((ga (mm.set r ((ga mm r).set (ix (ga l j)) X)) r).set (ix (ga l j) + 1) Y)) q) c) := by
 intro q hq c hc
 rw [ga_put _ _ _ _ (by rw [List.length_set]; omega) (by rw [len_put _ _ _ _ (by omega)]; omega), ga_put _ _ _ _ (by omega) (by omega)]
 have h0 := h q hq c hc
 have h1 : BuL l B' (if q < r then buN l (j + 1) q c else buN l j q c) (ga (ga mm q) c) := ⟨h0.1, h0.2.1.mono hB, h0.2.2⟩
 by_cases e : q = r
 ·subst e
  rw [if_pos (show q < q + 1 by omega), buN]
  by_cases c2 : c = ix (ga l j) + 1
  ·rw [if_pos (show q = q ∧ c = ix (ga l j) + 1 from ⟨rfl, c2⟩), if_neg (show ¬ c = ix (ga l j) by omega), if_pos c2]; exact hY
  ·rw [if_neg (fun h : q = q ∧ c = ix (ga l j) + 1 => c2 h.2)]
   by_cases c1 : c = ix (ga l j)
   ·rw [if_pos (show q = q ∧ c = ix (ga l j) from ⟨rfl, c1⟩), if_pos c1]; exact hX
   ·rw [if_neg (fun h : q = q ∧ c = ix (ga l j) => c1 h.2), if_neg c1, if_neg c2]
    rw [if_neg (show ¬ q < q by omega)] at h1; exact h1
 ·rw [if_neg (fun h : q = r ∧ c = ix (ga l j) + 1 => e h.1), if_neg (fun h : q = r ∧ c = ix (ga l j) => e h.1)]
  by_cases h3 : q < r
  ·rw [if_pos h3] at h1; rw [if_pos (show q < r + 1 by omega)]; exact h1
  ·rw [if_neg h3] at h1; rw [if_neg (show ¬ q < r + 1 by omega)]; exact h1
noncomputable def BurauOf_n0 : Code := Try.f28.body.getD .skip
noncomputable def BurauOf_n1 : Code := cL BurauOf_n0
noncomputable def BurauOf_n2 : Code := cR BurauOf_n0
noncomputable def BurauOf_n3 : Code := cL BurauOf_n2
noncomputable def BurauOf_n4 : Code := cR BurauOf_n2
noncomputable def BurauOf_n5 : Code := cL BurauOf_n4
noncomputable def BurauOf_n6 : Code := cR BurauOf_n4
noncomputable def BurauOf_n7 : Code := cL BurauOf_n5
noncomputable def BurauOf_n8 : Code := cR BurauOf_n5
noncomputable def BurauOf_n9 : Code := cL BurauOf_n8
noncomputable def BurauOf_n10 : Code := cL BurauOf_n9
noncomputable def BurauOf_n11 : Code := cL BurauOf_n10
noncomputable def BurauOf_n12 : Code := cR BurauOf_n10
noncomputable def BurauOf_n13 : Code := cL BurauOf_n11
noncomputable def BurauOf_n14 : Code := cR BurauOf_n11
noncomputable def BurauOf_n15 : Code := cL BurauOf_n14
noncomputable def BurauOf_n16 : Code := cR BurauOf_n14
noncomputable def BurauOf_n17 : Code := cL BurauOf_n12
noncomputable def BurauOf_n18 : Code := cR BurauOf_n12
noncomputable def BurauOf_n19 : Code := cL BurauOf_n17
noncomputable def BurauOf_n20 : Code := cL BurauOf_n19
noncomputable def BurauOf_n21 : Code := cR BurauOf_n19
noncomputable def BurauOf_n22 : Code := cL BurauOf_n21
noncomputable def BurauOf_n23 : Code := cR BurauOf_n21
noncomputable def BurauOf_n24 : Code := cL BurauOf_n6
noncomputable def BurauOf_n25 : Code := cR BurauOf_n6
noncomputable def BurauOf_n26 : Code := cL BurauOf_n25
noncomputable def BurauOf_n27 : Code := cR BurauOf_n25
noncomputable def BurauOf_n28 : Code := cL BurauOf_n26
noncomputable def BurauOf_n29 : Code := cR BurauOf_n26
noncomputable def BurauOf_n30 : Code := cL BurauOf_n29
noncomputable def BurauOf_n31 : Code := cL BurauOf_n30
noncomputable def BurauOf_n32 : Code := cL BurauOf_n31
noncomputable def BurauOf_n33 : Code := cR BurauOf_n31
noncomputable def BurauOf_n34 : Code := cL BurauOf_n32
noncomputable def BurauOf_n35 : Code := cR BurauOf_n32
noncomputable def BurauOf_n36 : Code := cL BurauOf_n35
noncomputable def BurauOf_n37 : Code := cR BurauOf_n35
noncomputable def BurauOf_n38 : Code := cL BurauOf_n33
noncomputable def BurauOf_n39 : Code := cR BurauOf_n33
noncomputable def BurauOf_n40 : Code := cL BurauOf_n38
noncomputable def BurauOf_n41 : Code := cL BurauOf_n40
noncomputable def BurauOf_n42 : Code := cR BurauOf_n40
noncomputable def BurauOf_n43 : Code := cL BurauOf_n42
noncomputable def BurauOf_n44 : Code := cR BurauOf_n42
noncomputable def BurauOf_n45 : Code := cL BurauOf_n44
noncomputable def BurauOf_n46 : Code := cL BurauOf_n45
noncomputable def BurauOf_n47 : Code := cL BurauOf_n46
noncomputable def BurauOf_n48 : Code := cR BurauOf_n46
noncomputable def BurauOf_n49 : Code := cL BurauOf_n47
noncomputable def BurauOf_n50 : Code := cR BurauOf_n47
noncomputable def BurauOf_n51 : Code := cL BurauOf_n50
noncomputable def BurauOf_n52 : Code := cR BurauOf_n50
noncomputable def BurauOf_n53 : Code := cL BurauOf_n48
noncomputable def BurauOf_n54 : Code := cR BurauOf_n48
noncomputable def BurauOf_n55 : Code := cL BurauOf_n53
noncomputable def BurauOf_n56 : Code := cL BurauOf_n55
noncomputable def BurauOf_n57 : Code := cR BurauOf_n55
noncomputable def BurauOf_n58 : Code := cL BurauOf_n57
noncomputable def BurauOf_n59 : Code := cR BurauOf_n57
noncomputable def BurauOf_n60 : Code := cL BurauOf_n59
noncomputable def BurauOf_n61 : Code := cR BurauOf_n59
noncomputable def BurauOf_n62 : Code := cL BurauOf_n60
noncomputable def BurauOf_n63 : Code := cR BurauOf_n60
noncomputable def BurauOf_n64 : Code := cL BurauOf_n61
noncomputable def BurauOf_n65 : Code := cR BurauOf_n61
noncomputable def BurauOf_n66 : Code := cL BurauOf_n27
noncomputable def BurauOf_n67 : Code := cR BurauOf_n27
set_option maxHeartbeats 20000000 in
set_option maxRecDepth 10000 in
theorem BurauOf_t {w : World} {M : Hp} {X : Fr} (n : Int) (l : List Int) {lA : Option Addr} {lc : Nat} (hl : RdA cdInt (M.un X.h) lA lc l) (hck : checkI n [l] = 0) (S : SH w M X []) : Ct Try.prog 28 [.int .i64 n, .slice lA l.length lc] w M X (fun u N => ∃ A c vs ss om, u = .slice A vs.length c ∧ RdA (cdV 43) N A c vs ∧ Rd2 (cdV 22) N vs ss ∧ RdD cdTm N ss om ∧ BuOk n l om) := by
 unfold Ct
 have rmhl : l.length * 8 ≤ 140737488355328 := hl.room
 refine calls_in (b := BurauOf_n0) Try.func28 rfl Try.ntmps28 rfl (fun C hC => ?_)
 refine ws_sub [(0, _), (1, _)] ⟨rfl, rfl, trivial⟩ ?_
 refine ws_seqN BurauOf_n1 BurauOf_n2 rfl rfl rfl ?_
 refine ws_region rfl ?_
 refine wla 0 1 rfl rfl rfl rfl rfl rfl rfl ?_
 refine wl_end rfl ?_
 refine nm_sub [(0, _), (1, _)] ⟨rfl, rfl, trivial⟩ ?_
 refine nm_thn ?_
 refine ws_seqN BurauOf_n3 BurauOf_n4 rfl rfl rfl ?_
 refine ws_region rfl ?_
 refine wla 0 1 rfl rfl rfl rfl rfl rfl rfl ?_
 refine wl_end rfl ?_
 refine nm_thn ?_
 refine ws_seqN BurauOf_n5 BurauOf_n6 rfl rfl rfl ?_
 refine ws_seqN BurauOf_n7 BurauOf_n8 rfl rfl rfl ?_
 obtain ⟨hn2, hn6, hl20, hlb⟩ := check_ok hck
 obtain ⟨m, hm⟩ : ∃ m : Nat, n = (m : Int) := ⟨n.toNat, by omega⟩
 clear hck
 refine ws_eq 0 (.int .i64 (m : Int)) rfl (int_eq hm) ?_
 refine ws_region rfl ?_
 refine wla 0 1 rfl rfl rfl rfl rfl rfl rfl ?_
 refine wl_end rfl ?_
 refine nm_sub [(0, _), (1, _), (5, _), (6, _)] ⟨rfl, rfl, rfl, rfl, trivial⟩ ?_
 refine nm_thn ?_
 refine ws_blockN BurauOf_n9 0 rfl rfl rfl ?_
 have S1 := S.newtab0 (cdV 22); clear S
 have S2 := S1.nilrow (cdV 43); clear S1
 refine ws_loopE (fun mx_ ax_ wx_ => ∃ (r0 : Nat) (vs0 : List SlV) (xs0 : List (List SlV)) (mm0 : List (List (List Tm))) (vrt0 : Value) (M1 : Hp), M.le M1 ∧ mx_ = m - r0 ∧ Env 118 [(0, .int .i64 (m : Int)), (1, .slice lA l.length lc), (5, vrt0), (6, .int .i64 (r0 : Int))] ax_ ∧ SH wx_ M1 X [Rs.row (cdV 43) vrt0 vs0, Rs.tab (cdV 22) vs0 xs0] ∧ r0 ≤ m ∧ (vs0.length = r0 ∧ xs0.length = r0 ∧ mm0.length = r0) ∧ (∀ q, q < r0 → (ga xs0 q).length = m ∧ (ga mm0 q).length = m) ∧ (∀ q, q < r0 → ∀ c, c < m → BuL l 1 (buN l 0 q c) (ga (ga mm0 q) c)) ∧ RdD cdTm M1 xs0 mm0) rfl ?_ ?_
 ·intro ax_ hax_
  refine ⟨_, ⟨0, [], [], [], _, _, Hp.le_refl _, rfl, hax_.sub ⟨rfl, rfl, rfl, rfl, trivial⟩, S2.pick [0, 1] [_, _] (by decide) ⟨rfl, rfl, trivial⟩, ?hq1f0, ?hq1f1, ?hq1f2, ?hq1f3, ?hq1f4⟩⟩
  case hq1f0 => omega
  case hq1f1 => exact ⟨rfl, rfl, rfl⟩
  case hq1f2 => (intro q hq; omega)
  case hq1f3 => (intro q hq; omega)
  case hq1f4 => exact (RdD.nil_ (C := cdTm) (N := M))
 ·rintro m1 a1 w1 ⟨r0, vs0, xs0, mm0, vrt0, M1, hle1, rfl, he1, S3, hr0, hl0, hxl0, hin0, hT0⟩
  clear S2
  refine ws_in he1 (c := BurauOf_n10) rfl ?_
  clear he1 a1
  replace hl := hl.mono (Hp.un_mono hle1 S3.mx)
  refine ws_seqN BurauOf_n11 BurauOf_n12 rfl rfl rfl ?_
  refine ws_seqN BurauOf_n13 BurauOf_n14 rfl rfl rfl ?_
  refine ws_region rfl ?_
  refine wlm 0 1 rfl rfl rfl rfl rfl rfl rfl ?_
  refine wlm 1 2 rfl rfl rfl rfl rfl rfl rfl ?_
  refine wlo 2 3 rfl rfl rfl (wo_run rfl rfl (run_lss rfl rfl rfl) ?_)
  refine wl_end rfl ?_
  refine nm_sub [(0, _), (1, _), (5, _), (6, _), (16, _)] ⟨rfl, rfl, rfl, rfl, rfl, trivial⟩ ?_
  refine nm_thn ?_
  refine ws_condN BurauOf_n15 BurauOf_n16 rfl rfl rfl rfl (fun hb16 => ?_) (fun hb16 => ?_)
  ·replace hb16 := of_decide_eq_true hb16
   refine ws_skip rfl ?_
   refine nm_sub [(0, _), (1, _), (5, _), (6, _)] ⟨rfl, rfl, rfl, rfl, trivial⟩ ?_
   refine nm_thn ?_
   refine ws_seqN BurauOf_n17 BurauOf_n18 rfl rfl rfl ?_
   refine ws_blockN BurauOf_n19 1 rfl rfl rfl ?_
   refine ws_seqN BurauOf_n20 BurauOf_n21 rfl rfl rfl ?_
   refine ws_region rfl ?_
   refine wlm 0 1 rfl rfl rfl rfl rfl rfl rfl ?_
   refine wlo 1 2 rfl rfl rfl (wo_make (C := (cdV 22)) m rfl rfl rfl rfl rfl sl43 (by first | rfl | omega) (by show _ * 24 ≤ _; first | omega | (simp only [lens]; omega)) S3 ?_)
   intro vr2 w2 S4; clear S3
   have hd1 : Rd2 cdTm M1 (List.replicate m ((cdV 22)).z) (List.replicate m []) := Rd2.rep _
   refine wla 2 3 rfl rfl rfl rfl rfl rfl rfl ?_
   refine wl_end rfl ?_
   refine nm_sub [(0, _), (1, _), (5, _), (6, _), (7, _)] ⟨rfl, rfl, rfl, rfl, rfl, trivial⟩ ?_
   refine nm_thn ?_
   refine ws_seqN BurauOf_n22 BurauOf_n23 rfl rfl rfl ?_
   refine ws_region rfl ?_
   refine wlm 0 1 rfl rfl rfl rfl rfl rfl rfl ?_
   refine wlm 1 2 rfl rfl rfl rfl rfl rfl rfl ?_
   refine wlo 2 3 rfl rfl rfl (wo_run rfl rfl (run_build (l := [_, _]) rfl rfl st86 rfl rfl) ?_)
   refine wlo 3 4 rfl rfl rfl (wo_buildSlice1 (C := cdTm) (l := [_, _]) rfl rfl rfl rfl sl22 rfl rfl rfl rfl S4 ?_)
   intro gb1 w3 S5; clear S4
   refine wlo 4 5 rfl rfl rfl (wo_run rfl rfl (run_indexR (C := (cdV 22)) (i := 1) r0 rfl rfl rfl sl43 S5 rfl (by first | rfl | omega) (by first | omega | (simp only [lens]; omega))) ?_)
   obtain ⟨M2, hle2, S7, hr1⟩ := S5.pubbox (C := cdTm) (z := (⟨0, 1⟩ : Tm)) (i := 0) (H' := [_, _, _, _]) rfl rfl rfl (by decide)
   clear S5
   replace hl := hl.mono (Hp.un_mono hle2 S7.mx)
   replace hT0 := hT0.mono hle2
   replace hd1 := hd1.mono hle2
   refine wlo 5 6 rfl rfl rfl (wo_storeR (C := (cdV 22)) (i := 1) (e := r0) (j := 0) (us := [_]) (H' := [_, _, _, _]) (⟨(some ⟨gb1, 0, none⟩), ([(⟨0, 1⟩ : Tm)]).length, 1⟩ : SlV) rfl rfl S7 rfl (by first | omega | (simp only [lens]; omega)) rfl rfl rfl sz22 rfl rfl rfl rfl ?_)
   intro w5 S8; clear S7
   have hd2 := hd1.set_ hr1 r0 (by first | omega | (simp only [lens]; omega))
   refine wl_end rfl ?_
   refine nm_sub [(0, _), (1, _), (5, _), (6, _), (7, _)] ⟨rfl, rfl, rfl, rfl, rfl, trivial⟩ ?_
   refine nm_thn ?_
   refine ws_region rfl ?_
   refine wlm 0 1 rfl rfl rfl rfl rfl rfl rfl ?_
   refine wlm 1 2 rfl rfl rfl rfl rfl rfl rfl ?_
   obtain ⟨A1, c1, rfl, _⟩ := S8.sl (i := 1) rfl
   have S9 := S8.tabsnoc (C := (cdV 22)) (zs := ((List.replicate m (cdV 22).z).set r0 (⟨(some ⟨gb1, 0, none⟩), ([(⟨0, 1⟩ : Tm)]).length, 1⟩ : SlV))) (i := 3) (q := 1) (H' := [_, _, _, _]) rfl rfl (by decide) rfl; clear S8
   have hTt1 := hT0.snoc hd2
   refine wlo 2 3 rfl rfl rfl (wo_buildSlice1 (C := (cdV 43)) (l := [_]) rfl rfl rfl rfl sl37 rfl rfl rfl rfl S9 ?_)
   intro gb2 w6 S10; clear S9
   refine wlo 3 4 rfl rfl rfl (wo_append1 (C := (cdV 43)) (i := 3) (q := 0) (⟨A1, ((List.replicate m (cdV 22).z).set r0 (⟨(some ⟨gb1, 0, none⟩), ([(⟨0, 1⟩ : Tm)]).length, 1⟩ : SlV)).length, c1⟩ : SlV) rfl rfl rfl rfl rfl rfl rfl rfl sl37 S10 rfl rfl rfl (by show (_ + 1) * 24 ≤ _; first | omega | (simp only [lens]; omega)) ?_)
   intro vrt1 w7 S11; clear S10
   have S12 := S11.pick [1, 2, 3, 4] [_, _, _, _] (by decide) ⟨rfl, rfl, rfl, rfl, trivial⟩; clear S11
   refine wla 4 5 rfl rfl rfl rfl rfl rfl rfl ?_
   refine wl_end rfl ?_
   refine nm_blk ?_
   refine nm_sub [(0, _), (1, _), (5, _), (6, _)] ⟨rfl, rfl, rfl, rfl, trivial⟩ ?_
   refine nm_thn ?_
   refine ws_region rfl ?_
   refine wlm 0 1 rfl rfl rfl rfl rfl rfl rfl ?_
   refine wlo 1 2 rfl rfl rfl (wo_run rfl rfl (run_add rfl rfl rfl (by first | omega | (simp only [lens]; omega))) ?_)
   refine wla 2 3 rfl rfl rfl rfl rfl rfl rfl ?_
   refine wl_end rfl ?_
   refine nm_lp ?_
   intro ax_ hax_
   refine ⟨_, ?hq2m, ⟨r0 + 1, _, _, (mm0 ++ [(List.replicate m []).set r0 ([(⟨0, 1⟩ : Tm)])]), _, _, (hle1.trans hle2), rfl, hax_.sub ⟨rfl, rfl, rfl, rfl, trivial⟩, S12.pick [2, 3] [_, _] (by decide) ⟨rfl, rfl, trivial⟩, ?hq2f0, ?hq2f1, ?hq2f2, ?hq2f3, ?hq2f4⟩⟩
   case hq2f0 => omega
   case hq2f1 => (simp only [List.length_append, List.length_singleton]; omega)
   case hq2f2 => (intro q hq; by_cases e : q < r0; (rw [ga_append_left _ _ _ (by omega), ga_append_left _ _ _ (by omega)]; exact hxl0 q e); (obtain rfl : q = r0 := (by omega); rw [ga_append_right _ _ _ (by omega), ga_append_right _ _ _ (by omega), hl0.2.1, hl0.2.2, Nat.sub_self]; exact ⟨by (show (List.set _ _ _).length = m; simp), by (show (List.set _ _ _).length = m; simp)⟩))
   case hq2f3 => (intro q hq c hc; by_cases e : q < r0; (rw [ga_append_left _ _ _ (by omega)]; exact hin0 q e c hc); (obtain rfl : q = r0 := (by omega); rw [ga_append_right _ _ _ (by omega), hl0.2.2, Nat.sub_self]; show BuL l 1 _ (ga (List.set _ _ _) c); rw [ga_set _ _ _ _ (by simp; omega), buN]; by_cases e2 : q = c; (rw [if_pos e2, if_pos e2]; exact ⟨can_one (by omega) (by omega), bd_le (by simp), rfl⟩); (rw [if_neg e2, if_neg e2, ga_rep _ _ _ hc]; exact ⟨Can.nil_, (fun t ht => by cases ht), rfl⟩)))
   case hq2f4 => exact hTt1
   case hq2m => omega
  ·replace hb16 := of_decide_eq_false hb16
   refine ws_exit rfl rfl ?_
   refine nm_sub [(0, _), (1, _), (5, _)] ⟨rfl, rfl, rfl, trivial⟩ ?_
   refine nm_thn ?_
   refine ws_seqN BurauOf_n24 BurauOf_n25 rfl rfl rfl ?_
   refine ws_region rfl ?_
   refine wlo 0 1 rfl rfl rfl (wo_run rfl rfl (run_build (l := [_, _]) rfl rfl st86 rfl rfl) ?_)
   refine wlo 1 2 rfl rfl rfl (wo_buildSlice1 (C := cdTm) (l := [_, _]) rfl rfl rfl rfl sl22 rfl rfl rfl rfl S3 ?_)
   intro gb3 w8 S13; clear S3
   refine wla 2 3 rfl rfl rfl rfl rfl rfl rfl ?_
   refine wl_end rfl ?_
   refine nm_sub [(0, _), (1, _), (5, _), (8, _)] ⟨rfl, rfl, rfl, rfl, trivial⟩ ?_
   refine nm_thn ?_
   refine ws_seqN BurauOf_n26 BurauOf_n27 rfl rfl rfl ?_
   refine ws_seqN BurauOf_n28 BurauOf_n29 rfl rfl rfl ?_
   obtain ⟨M3, hle3, S14, hr2⟩ := S13.pubbox (C := cdTm) (z := (⟨0, 1⟩ : Tm)) (i := 0) (H' := [_, _, _]) rfl rfl rfl (by decide)
   clear S13
   replace hl := hl.mono (Hp.un_mono hle3 S14.mx)
   replace hT0 := hT0.mono hle3
   refine ws_region rfl ?_
   refine wla 0 1 rfl rfl rfl rfl rfl rfl rfl ?_
   refine wl_end rfl ?_
   refine nm_thn ?_
   refine ws_blockN BurauOf_n30 2 rfl rfl rfl ?_
   refine ws_loopE (fun mx_ ax_ wx_ => ∃ (j : Nat) (B : Nat) (vs1 : List SlV) (xs1 : List (List SlV)) (mm1 : List (List (List Tm))) (vrt1 : Value) (M4 : Hp), M3.le M4 ∧ mx_ = l.length - j ∧ Env 118 [(0, .int .i64 (m : Int)), (1, .slice lA l.length lc), (5, vrt1), (8, .slice (some ⟨gb3, 0, none⟩) ([(⟨0, 1⟩ : Tm)]).length 1), (9, .int .i64 (j : Int))] ax_ ∧ SH wx_ M4 X [Rs.row (cdV 43) vrt1 vs1, Rs.tab (cdV 22) vs1 xs1] ∧ j ≤ l.length ∧ B ≤ 12 * j + 1 ∧ (vs1.length = m ∧ xs1.length = m ∧ mm1.length = m) ∧ (∀ q, q < m → (ga xs1 q).length = m ∧ (ga mm1 q).length = m) ∧ (∀ q, q < m → ∀ c, c < m → BuL l B (buN l j q c) (ga (ga mm1 q) c)) ∧ RdD cdTm M4 xs1 mm1) rfl ?_ ?_
   ·intro ax_ hax_
    refine ⟨_, ⟨0, 1, _, _, mm0, _, _, Hp.le_refl _, rfl, hax_.sub ⟨rfl, rfl, rfl, rfl, rfl, trivial⟩, S14.pick [1, 2] [_, _] (by decide) ⟨rfl, rfl, trivial⟩, ?hq3f0, ?hq3f1, ?hq3f2, ?hq3f3, ?hq3f4, ?hq3f5⟩⟩
    case hq3f0 => omega
    case hq3f1 => omega
    case hq3f2 => (obtain rfl : r0 = m := (by omega); exact hl0)
    case hq3f3 => (obtain rfl : r0 = m := (by omega); exact hxl0)
    case hq3f4 => (obtain rfl : r0 = m := (by omega); exact hin0)
    case hq3f5 => exact hT0
   ·rintro m2 a2 w9 ⟨j, B, vs1, xs1, mm1, vrt1, M4, hle4, rfl, he2, S15, hj, hB, hl1, hxl1, hin1, hT1⟩
    clear S14
    refine ws_in he2 (c := BurauOf_n31) rfl ?_
    clear he2 a2
    replace hl := hl.mono (Hp.un_mono hle4 S15.mx)
    replace hT0 := hT0.mono hle4
    replace hr2 := hr2.mono hle4
    clear hl0 hxl0 hin0
    refine ws_seqN BurauOf_n32 BurauOf_n33 rfl rfl rfl ?_
    refine ws_seqN BurauOf_n34 BurauOf_n35 rfl rfl rfl ?_
    refine ws_region rfl ?_
    refine wlm 0 1 rfl rfl rfl rfl rfl rfl rfl ?_
    refine wlm 1 2 rfl rfl rfl rfl rfl rfl rfl ?_
    refine wlo 2 3 rfl rfl rfl (wo_run rfl rfl (run_len rfl rfl rfl rfl rfl rfl Try.underlying36) ?_)
    refine wlo 3 4 rfl rfl rfl (wo_run rfl rfl (run_lss rfl rfl rfl) ?_)
    refine wl_end rfl ?_
    refine nm_sub [(0, _), (1, _), (5, _), (8, _), (9, _), (35, _)] ⟨rfl, rfl, rfl, rfl, rfl, rfl, trivial⟩ ?_
    refine nm_thn ?_
    refine ws_condN BurauOf_n36 BurauOf_n37 rfl rfl rfl rfl (fun hb35 => ?_) (fun hb35 => ?_)
    ·replace hb35 := of_decide_eq_true hb35
     obtain ⟨ha1, ha2⟩ := hlb j (by omega)
     refine ws_skip rfl ?_
     refine nm_sub [(0, _), (1, _), (5, _), (8, _), (9, _)] ⟨rfl, rfl, rfl, rfl, rfl, trivial⟩ ?_
     refine nm_thn ?_
     refine ws_seqN BurauOf_n38 BurauOf_n39 rfl rfl rfl ?_
     refine ws_blockN BurauOf_n40 3 rfl rfl rfl ?_
     refine ws_seqN BurauOf_n41 BurauOf_n42 rfl rfl rfl ?_
     refine ws_region rfl ?_
     refine wlm 0 1 rfl rfl rfl rfl rfl rfl rfl ?_
     refine wlm 1 2 rfl rfl rfl rfl rfl rfl rfl ?_
     refine wlo 2 3 rfl rfl rfl (wo_run rfl rfl (run_indexM (C := cdInt) j rfl rfl rfl sl36 (by first | rfl | omega) hl (by first | omega | (simp only [lens]; omega))) ?_)
     refine wlo 3 4 rfl rfl rfl (wo_run rfl rfl (run_load1 rfl rfl Try.underlying3 rfl (hl.cell S15.um (i := j) (by first | omega | (simp only [lens]; omega)) 0 rfl rfl)) ?_)
     refine wlo 4 5 rfl rfl rfl (wo_cq rfl rfl rfl rfl rfl rfl rfl cf63 S15 (abs_q (ga l j) ((by omega)) S15.lend) ?_)
     rintro _ w10 S16 rfl; clear S15
     refine wla 5 6 rfl rfl rfl rfl rfl rfl rfl ?_
     refine wl_end rfl ?_
     refine nm_sub [(0, _), (1, _), (5, _), (8, _), (9, _), (10, _)] ⟨rfl, rfl, rfl, rfl, rfl, rfl, trivial⟩ ?_
     refine nm_thn ?_
     refine ws_seqN BurauOf_n43 BurauOf_n44 rfl rfl rfl ?_
     refine ws_eq 10 (.int .i64 ((ix (ga l j) + 1 : Nat) : Int)) rfl (int_eq (by unfold ix; omega)) ?_
     have hix : ix (ga l j) + 1 < m := by unfold ix; omega
     have hz := Lib.hid (show ga l j ≠ 0 by omega)
     clear ha1 ha2
     refine ws_region rfl ?_
     refine wla 0 1 rfl rfl rfl rfl rfl rfl rfl ?_
     refine wl_end rfl ?_
     refine nm_sub [(0, _), (1, _), (5, _), (8, _), (9, _), (10, _), (11, _)] ⟨rfl, rfl, rfl, rfl, rfl, rfl, rfl, trivial⟩ ?_
     refine nm_thn ?_
     refine ws_blockN BurauOf_n45 4 rfl rfl rfl ?_
     refine ws_loopE (fun mx_ ax_ wx_ => ∃ (r : Nat) (B2 : Nat) (vs2 : List SlV) (xs2 : List (List SlV)) (mm2 : List (List (List Tm))) (vrt2 : Value) (M5 : Hp), M4.le M5 ∧ mx_ = m - r ∧ Env 118 [(0, .int .i64 (m : Int)), (1, .slice lA l.length lc), (5, vrt2), (8, .slice (some ⟨gb3, 0, none⟩) ([(⟨0, 1⟩ : Tm)]).length 1), (9, .int .i64 (j : Int)), (10, .int .i64 ((ix (ga l j) + 1 : Nat) : Int)), (11, .int .i64 (r : Int))] ax_ ∧ SH wx_ M5 X [Rs.row (cdV 43) vrt2 vs2, Rs.tab (cdV 22) vs2 xs2] ∧ r ≤ m ∧ B2 ≤ 12 * j + 2 * r + 1 ∧ (vs2.length = m ∧ xs2.length = m ∧ mm2.length = m) ∧ (∀ q, q < m → (ga xs2 q).length = m ∧ (ga mm2 q).length = m) ∧ (∀ q, q < m → ∀ c, c < m → BuL l B2 (if q < r then buN l (j + 1) q c else buN l j q c) (ga (ga mm2 q) c)) ∧ RdD cdTm M5 xs2 mm2) rfl ?_ ?_
     ·intro ax_ hax_
      refine ⟨_, ⟨0, B, _, _, mm1, _, _, Hp.le_refl _, rfl, hax_.sub ⟨rfl, rfl, rfl, rfl, rfl, rfl, rfl, trivial⟩, S16.pick [0, 1] [_, _] (by decide) ⟨rfl, rfl, trivial⟩, ?hq4f0, ?hq4f1, ?hq4f2, ?hq4f3, ?hq4f4, ?hq4f5⟩⟩
      case hq4f0 => omega
      case hq4f1 => omega
      case hq4f2 => exact hl1
      case hq4f3 => exact hxl1
      case hq4f4 => (intro q hq c hc; have := hin1 q hq c hc; rwa [if_neg (by omega)])
      case hq4f5 => exact hT1
     ·rintro m3 a3 w11 ⟨r, B2, vs2, xs2, mm2, vrt2, M5, hle5, rfl, he3, S17, hr, hB2, hl2, hxl2, hin2, hT2⟩
      clear S16
      refine ws_in he3 (c := BurauOf_n46) rfl ?_
      clear he3 a3
      replace hl := hl.mono (Hp.un_mono hle5 S17.mx)
      replace hT0 := hT0.mono hle5
      replace hr2 := hr2.mono hle5
      replace hT1 := hT1.mono hle5
      clear hl1 hxl1 hin1
      refine ws_seqN BurauOf_n47 BurauOf_n48 rfl rfl rfl ?_
      refine ws_seqN BurauOf_n49 BurauOf_n50 rfl rfl rfl ?_
      refine ws_region rfl ?_
      refine wlm 0 1 rfl rfl rfl rfl rfl rfl rfl ?_
      refine wlm 1 2 rfl rfl rfl rfl rfl rfl rfl ?_
      refine wlo 2 3 rfl rfl rfl (wo_run rfl rfl (run_lss rfl rfl rfl) ?_)
      refine wl_end rfl ?_
      refine nm_sub [(0, _), (1, _), (5, _), (8, _), (9, _), (10, _), (11, _), (45, _)] ⟨rfl, rfl, rfl, rfl, rfl, rfl, rfl, rfl, trivial⟩ ?_
      refine nm_thn ?_
      refine ws_condN BurauOf_n51 BurauOf_n52 rfl rfl rfl rfl (fun hb45 => ?_) (fun hb45 => ?_)
      ·replace hb45 := of_decide_eq_true hb45
       have hxr := (hxl2 r (by omega)).1
       have hmr := (hxl2 r (by omega)).2
       refine ws_skip rfl ?_
       refine nm_sub [(0, _), (1, _), (5, _), (8, _), (9, _), (10, _), (11, _)] ⟨rfl, rfl, rfl, rfl, rfl, rfl, rfl, trivial⟩ ?_
       refine nm_thn ?_
       refine ws_seqN BurauOf_n53 BurauOf_n54 rfl rfl rfl ?_
       refine ws_blockN BurauOf_n55 5 rfl rfl rfl ?_
       refine ws_seqN BurauOf_n56 BurauOf_n57 rfl rfl rfl ?_
       refine ws_draw rfl (by kernel_rfl) S17 17 rfl ?_
       clear S17
       refine wa_takeP (i := 0) (d := 48) 16 rfl (by kernel_rfl) (by kernel_rfl) (by kernel_rfl) rfl rfl rfl (fun w12 => run_move rfl rfl) ?_
       refine wa_takeP (i := 1) (d := 49) 15 rfl (by kernel_rfl) (by kernel_rfl) (by kernel_rfl) rfl rfl rfl (fun w13 => run_move rfl rfl) ?_
       refine wa_take (i := 2) (d := 50) 14 rfl (by kernel_rfl) (by kernel_rfl) (by kernel_rfl) rfl rfl rfl (fun M8 N3 w14 hle8 S20 => .inl (run_indexR (C := (cdV 43)) (i := 0) r rfl rfl rfl sl37 S20.suf rfl (by first | rfl | omega) (by first | omega | (simp only [lens]; omega)))) ?_
       refine wa_take (i := 3) (d := 51) 13 rfl (by kernel_rfl) (by kernel_rfl) (by kernel_rfl) rfl rfl rfl (fun M9 N4 w15 hle9 S21 => .inl (run_load1 rfl rfl Try.underlying43 rfl (S21.suf.rowc (i := 0) (e := r) (j := 0) rfl (by first | omega | (simp only [lens]; omega)) rfl rfl))) ?_
       refine wa_takeP (i := 4) (d := 52) 12 rfl (by kernel_rfl) (by kernel_rfl) (by kernel_rfl) rfl rfl rfl (fun w16 => run_move rfl rfl) ?_
       refine wa_takeP (i := 5) (d := 53) 11 rfl (by kernel_rfl) (by kernel_rfl) (by kernel_rfl) rfl rfl rfl (fun w17 => run_sub rfl rfl rfl (by first | omega | (simp only [lens]; omega))) ?_
       refine wa_take (i := 6) (d := 54) 10 rfl (by kernel_rfl) (by kernel_rfl) (by kernel_rfl) rfl rfl rfl (fun M12 N7 w18 hle12 S24 => .inl (run_indexT (C := (cdV 22)) (vs := vs2) (xss := xs2) (i := 1) r (ix (ga l j)) rfl rfl rfl rfl sl43 S24.suf rfl (by first | omega | (simp only [lens]; omega) | (rw [ga_set _ _ _ _ (by first | omega | (simp only [List.length_set]; omega)), if_pos rfl]; simp only [List.length_set]; omega)) (by first | rfl | omega) (by first | omega | (simp only [lens]; omega) | (rw [ga_set _ _ _ _ (by first | omega | (simp only [List.length_set]; omega)), if_pos rfl]; simp only [List.length_set]; omega)))) ?_
       have hk1 := hT2.2 r (by first | omega | (simp only [lens]; omega) | (rw [ga_set _ _ _ _ (by first | omega | (simp only [List.length_set]; omega)), if_pos rfl]; simp only [List.length_set]; omega))
       obtain ⟨hn1, hr3⟩ := hk1.2 (ix (ga l j)) (by first | omega | (simp only [lens]; omega))
       have rmhr3 : (ga (ga mm2 r) (ix (ga l j))).length * 16 ≤ 140737488355328 := hr3.room
       refine wa_take (i := 7) (d := 55) 9 rfl (by kernel_rfl) (by kernel_rfl) (by kernel_rfl) rfl rfl rfl (fun M13 N8 w19 hle13 S25 => .inl (run_load1 rfl rfl Try.underlying22 rfl (S25.suf.tabc (i := 1) (k := r) (e := ix (ga l j)) (j := 0) rfl (by first | omega | (simp only [lens]; omega) | (rw [ga_set _ _ _ _ (by first | omega | (simp only [List.length_set]; omega)), if_pos rfl]; simp only [List.length_set]; omega)) (by first | omega | (simp only [lens]; omega) | (rw [ga_set _ _ _ _ (by first | omega | (simp only [List.length_set]; omega)), if_pos rfl]; simp only [List.length_set]; omega)) rfl (congrArg (fun n => some (Value.slice _ n _)) hn1)))) ?_
       refine wa_takeP (i := 8) (d := 56) 8 rfl (by kernel_rfl) (by kernel_rfl) (by kernel_rfl) rfl rfl rfl (fun w20 => run_move rfl rfl) ?_
       refine wa_takeP (i := 9) (d := 57) 7 rfl (by kernel_rfl) (by kernel_rfl) (by kernel_rfl) rfl rfl rfl (fun w21 => run_move rfl rfl) ?_
       refine wa_take (i := 10) (d := 58) 6 rfl (by kernel_rfl) (by kernel_rfl) (by kernel_rfl) rfl rfl rfl (fun M16 N11 w22 hle16 S28 => .inl (run_indexR (C := (cdV 43)) (i := 0) r rfl rfl rfl sl37 S28.suf rfl (by first | rfl | omega) (by first | omega | (simp only [lens]; omega)))) ?_
       refine wa_take (i := 11) (d := 59) 5 rfl (by kernel_rfl) (by kernel_rfl) (by kernel_rfl) rfl rfl rfl (fun M17 N12 w23 hle17 S29 => .inl (run_load1 rfl rfl Try.underlying43 rfl (S29.suf.rowc (i := 0) (e := r) (j := 0) rfl (by first | omega | (simp only [lens]; omega)) rfl rfl))) ?_
       refine wa_takeP (i := 12) (d := 60) 4 rfl (by kernel_rfl) (by kernel_rfl) (by kernel_rfl) rfl rfl rfl (fun w24 => run_move rfl rfl) ?_
       refine wa_take (i := 13) (d := 61) 3 rfl (by kernel_rfl) (by kernel_rfl) (by kernel_rfl) rfl rfl rfl (fun M19 N14 w25 hle19 S31 => .inl (run_indexT (C := (cdV 22)) (vs := vs2) (xss := xs2) (i := 1) r (ix (ga l j) + 1) rfl rfl rfl rfl sl43 S31.suf rfl (by first | omega | (simp only [lens]; omega) | (rw [ga_set _ _ _ _ (by first | omega | (simp only [List.length_set]; omega)), if_pos rfl]; simp only [List.length_set]; omega)) (by first | rfl | omega) (by first | omega | (simp only [lens]; omega) | (rw [ga_set _ _ _ _ (by first | omega | (simp only [List.length_set]; omega)), if_pos rfl]; simp only [List.length_set]; omega)))) ?_
       have hk2 := hT2.2 r (by first | omega | (simp only [lens]; omega) | (rw [ga_set _ _ _ _ (by first | omega | (simp only [List.length_set]; omega)), if_pos rfl]; simp only [List.length_set]; omega))
       obtain ⟨hn2, hr4⟩ := hk2.2 (ix (ga l j) + 1) (by first | omega | (simp only [lens]; omega))
       have rmhr4 : (ga (ga mm2 r) (ix (ga l j) + 1)).length * 16 ≤ 140737488355328 := hr4.room
       refine wa_take (i := 14) (d := 62) 2 rfl (by kernel_rfl) (by kernel_rfl) (by kernel_rfl) rfl rfl rfl (fun M20 N15 w26 hle20 S32 => .inl (run_load1 rfl rfl Try.underlying22 rfl (S32.suf.tabc (i := 1) (k := r) (e := ix (ga l j) + 1) (j := 0) rfl (by first | omega | (simp only [lens]; omega) | (rw [ga_set _ _ _ _ (by first | omega | (simp only [List.length_set]; omega)), if_pos rfl]; simp only [List.length_set]; omega)) (by first | omega | (simp only [lens]; omega) | (rw [ga_set _ _ _ _ (by first | omega | (simp only [List.length_set]; omega)), if_pos rfl]; simp only [List.length_set]; omega)) rfl (congrArg (fun n => some (Value.slice _ n _)) hn2)))) ?_
       refine wa_takeP (i := 15) (d := 12) 1 rfl (by kernel_rfl) (by kernel_rfl) (by kernel_rfl) rfl rfl rfl (fun w27 => run_assign rfl rfl) ?_
       refine wa_takeP (i := 16) (d := 13) 0 rfl (by kernel_rfl) (by kernel_rfl) (by kernel_rfl) rfl rfl rfl (fun w28 => run_assign rfl rfl) ?_
       refine wa_end (by kernel_rfl) (fun w29 S35 => ?_)
       refine nm_sub [(0, _), (1, _), (5, _), (8, _), (9, _), (10, _), (11, _), (12, _), (13, _)] ⟨rfl, rfl, rfl, rfl, rfl, rfl, rfl, rfl, rfl, trivial⟩ ?_
       refine nm_thn ?_
       refine ws_seqN BurauOf_n58 BurauOf_n59 rfl rfl rfl ?_
       obtain ⟨hcx, hbx, hmx⟩ := hin2 r (by omega) (ix (ga l j)) (by omega)
       obtain ⟨hcy, hby, hmy⟩ := hin2 r (by omega) (ix (ga l j) + 1) (by omega)
       rw [if_neg (by omega)] at hmx hmy
       refine ws_region rfl ?_
       refine wlm 0 1 rfl rfl rfl rfl rfl rfl rfl ?_
       refine wlm 1 2 rfl rfl rfl rfl rfl rfl rfl ?_
       refine wlo 2 3 rfl rfl rfl (wo_run rfl rfl (run_indexM (C := cdInt) j rfl rfl rfl sl36 (by first | rfl | omega) hl (by first | omega | (simp only [lens]; omega))) ?_)
       refine wlo 3 4 rfl rfl rfl (wo_run rfl rfl (run_load1 rfl rfl Try.underlying3 rfl (hl.cell S35.um (i := j) (by first | omega | (simp only [lens]; omega)) 0 rfl rfl)) ?_)
       refine wlo 4 5 rfl rfl rfl (wo_run rfl rfl (run_gtr rfl rfl rfl) ?_)
       refine wl_end rfl ?_
       refine nm_sub [(0, _), (1, _), (5, _), (8, _), (9, _), (10, _), (11, _), (12, _), (13, _), (67, _)] ⟨rfl, rfl, rfl, rfl, rfl, rfl, rfl, rfl, rfl, rfl, trivial⟩ ?_
       refine nm_thn ?_
       refine ws_condN BurauOf_n60 BurauOf_n61 rfl rfl rfl rfl (fun hb67 => ?_) (fun hb67 => ?_)
       ·replace hb67 := of_decide_eq_true hb67
        have hneg : ¬ ga l j < 0 := by omega
        refine ws_seqN BurauOf_n62 BurauOf_n63 rfl rfl rfl ?_
        refine ws_draw rfl (by kernel_rfl) S35 15 rfl ?_
        clear S35
        refine wa_takeP (i := 0) (d := 68) 14 rfl (by kernel_rfl) (by kernel_rfl) (by kernel_rfl) rfl rfl rfl (fun w30 => run_move rfl rfl) ?_
        refine wa_takeP (i := 1) (d := 69) 13 rfl (by kernel_rfl) (by kernel_rfl) (by kernel_rfl) rfl rfl rfl (fun w31 => run_move rfl rfl) ?_
        refine wa_take (i := 2) (d := 70) 12 rfl (by kernel_rfl) (by kernel_rfl) (by kernel_rfl) rfl rfl rfl (fun M25 N20 w32 hle25 S38 => .inl (run_indexR (C := (cdV 43)) (i := 0) r rfl rfl rfl sl37 S38.suf rfl (by first | rfl | omega) (by first | omega | (simp only [lens]; omega)))) ?_
        refine wa_take (i := 3) (d := 71) 11 rfl (by kernel_rfl) (by kernel_rfl) (by kernel_rfl) rfl rfl rfl (fun M26 N21 w33 hle26 S39 => .inl (run_load1 rfl rfl Try.underlying43 rfl (S39.suf.rowc (i := 0) (e := r) (j := 0) rfl (by first | omega | (simp only [lens]; omega)) rfl rfl))) ?_
        refine wa_takeP (i := 4) (d := 72) 10 rfl (by kernel_rfl) (by kernel_rfl) (by kernel_rfl) rfl rfl rfl (fun w34 => run_move rfl rfl) ?_
        refine wa_takeP (i := 5) (d := 73) 9 rfl (by kernel_rfl) (by kernel_rfl) (by kernel_rfl) rfl rfl rfl (fun w35 => run_sub rfl rfl rfl (by first | omega | (simp only [lens]; omega))) ?_
        refine wa_takeP (i := 6) (d := 74) 8 rfl (by kernel_rfl) (by kernel_rfl) (by kernel_rfl) rfl rfl rfl (fun w36 => run_move rfl rfl) ?_
        refine wa_take (i := 7) (d := 75) 7 rfl (by kernel_rfl) (by kernel_rfl) (by kernel_rfl) rfl rfl rfl (fun M30 N25 w37 hle30 S43 => .inl (run_build (l := [_, _]) rfl rfl st86 rfl rfl)) ?_
        refine wa_take (i := 8) (d := 76) 6 rfl (by kernel_rfl) (by kernel_rfl) (by kernel_rfl) rfl rfl rfl (fun M31 N26 w38 hle31 S44 => .inl (run_build (l := [_, _]) rfl rfl st86 rfl rfl)) ?_
        refine wa_takeP (i := 11) (d := 79) 5 rfl (by kernel_rfl) (by kernel_rfl) (by kernel_rfl) rfl rfl rfl (fun w40 => run_move rfl rfl) ?_
        refine wa_only (i := 9) 4 rfl (by kernel_rfl) rfl rfl (fun w42 S48 => ?_)
        refine (wo_buildSliceN (C := cdTm) (l := [_, _, _, _]) (pl := [(0, 2), (2, 2)]) rfl rfl rfl rfl sl22 rfl rfl rfl rfl rfl S48 ?_)
        intro gb4 w44 S50; clear S48
        refine LeftW.grow [_] (Hp.le_refl _) S50 ?_; clear S50
        change WA _ _ _ _ _ _ _ _ _ _ _ _ [_, _, _]
        refine wa_only (i := 10) 3 rfl (by kernel_rfl) rfl rfl (fun w46 S52 => ?_)
        have S54 := S52.boxrow (C := cdTm) [(⟨0, 1⟩ : Tm), (⟨1, (-1)⟩ : Tm)] (i := 0) (H' := [_, _, _]) rfl rfl (by simp) rfl; clear S52
        obtain ⟨M36, hle36, S53, ⟨_, _, eE, hr5⟩⟩ := S54.pubrow (i := 0) (H' := [_, _, _]) rfl rfl (by show 2 * _ ≤ _; decide); clear S54; injection eE with eE1 _ eE2; subst eE1; subst eE2
        replace hl := hl.mono (Hp.un_mono hle36 S53.mx)
        replace hT0 := hT0.mono hle36
        replace hr2 := hr2.mono hle36
        replace hT1 := hT1.mono hle36
        replace hT2 := hT2.mono hle36
        replace hr3 := hr3.mono hle36
        replace hr4 := hr4.mono hle36
        refine (wo_ct rfl rfl rfl rfl rfl rfl rfl cf18 S53 (Product_t (ga (ga mm2 r) (ix (ga l j))) ([(⟨0, 1⟩ : Tm), (⟨1, (-1)⟩ : Tm)]) hr3 hr5 (B2) (1) (hbx) ((bd_le (by simp))) ((by omega)) S53.lend) ?_)
        intro vw47 w47 M37 hle37 S55 hRw47; clear S53
        replace hl := hl.mono (Hp.un_mono hle37 S55.mx)
        replace hT0 := hT0.mono hle37
        replace hr2 := hr2.mono hle37
        replace hT1 := hT1.mono hle37
        replace hT2 := hT2.mono hle37
        replace hr3 := hr3.mono hle37
        replace hr4 := hr4.mono hle37
        replace hr5 := hr5.mono hle37
        obtain ⟨A2, c2, l1, rfl, hr6, hcan1, hbd1, hmk1⟩ := hRw47
        refine LeftW.grow [_] (hle36.trans hle37) S55 ?_; clear S55
        change WA _ _ _ _ _ _ _ _ _ _ _ _ [_, _, _]
        refine wa_base ?_
        refine wa_only (i := 12) 2 rfl (by kernel_rfl) rfl rfl (fun w49 S57 => ?_)
        refine (wo_ct rfl rfl rfl rfl rfl rfl rfl cf17 S57 (Sum_t l1 (ga (ga mm2 r) (ix (ga l j) + 1)) 1 hr6 hr4 ((B2 + 1)) (hcan1) ((hbd1.mono (by omega))) ((hby.mono (by omega))) ((by omega)) S57.lend) ?_)
        intro vw50 w50 M39 hle39 S58 hRw50; clear S57
        replace hl := hl.mono (Hp.un_mono hle39 S58.mx)
        replace hT0 := hT0.mono hle39
        replace hr2 := hr2.mono hle39
        replace hT1 := hT1.mono hle39
        replace hT2 := hT2.mono hle39
        replace hr3 := hr3.mono hle39
        replace hr4 := hr4.mono hle39
        replace hr5 := hr5.mono hle39
        replace hr6 := hr6.mono hle39
        obtain ⟨A3, c3, l2, rfl, hr7, hcan2, hbd2, hmk2⟩ := hRw50
        refine LeftW.grow [] (hle39) S58 ?_; clear S58
        change WA _ _ _ _ _ _ _ _ _ _ _ _ [_, _, _]
        refine wa_base ?_
        refine wa_take (i := 13) (d := 81) 1 rfl (by kernel_rfl) (by kernel_rfl) (by kernel_rfl) rfl rfl rfl (fun M40 N32 w51 hle40 S59 => .inl (run_indexT (C := (cdV 22)) (vs := vs2) (xss := xs2) (i := 2) r (ix (ga l j)) rfl rfl rfl rfl sl43 S59.suf rfl (by first | omega | (simp only [lens]; omega) | (rw [ga_set _ _ _ _ (by first | omega | (simp only [List.length_set]; omega)), if_pos rfl]; simp only [List.length_set]; omega)) (by first | rfl | omega) (by first | omega | (simp only [lens]; omega) | (rw [ga_set _ _ _ _ (by first | omega | (simp only [List.length_set]; omega)), if_pos rfl]; simp only [List.length_set]; omega)))) ?_
        refine wa_only (i := 14) 0 rfl (by kernel_rfl) rfl rfl (fun w53 S61 => ?_)
        refine (wo_storeT (C := (cdV 22)) (vs := vs2) (xss := xs2) (i := 2) (k := r) (e := ix (ga l j)) (j := 0) (us := [_]) (H' := [_, _, _]) (⟨A3, l2.length, c3⟩ : SlV) rfl rfl S61 rfl (by first | omega | (simp only [lens]; omega) | (rw [ga_set _ _ _ _ (by first | omega | (simp only [List.length_set]; omega)), if_pos rfl]; simp only [List.length_set]; omega)) (by first | omega | (simp only [lens]; omega) | (rw [ga_set _ _ _ _ (by first | omega | (simp only [List.length_set]; omega)), if_pos rfl]; simp only [List.length_set]; omega)) rfl rfl rfl sz22 rfl rfl rfl rfl ?_)
        intro w54 S62; clear S61
        have hTt2 := hT2.put r (ix (ga l j)) hr7 (by first | omega | (simp only [lens]; omega) | (rw [ga_set _ _ _ _ (by first | omega | (simp only [List.length_set]; omega)), if_pos rfl]; simp only [List.length_set]; omega)) (by first | omega | (simp only [lens]; omega) | (rw [ga_set _ _ _ _ (by first | omega | (simp only [List.length_set]; omega)), if_pos rfl]; simp only [List.length_set]; omega))
        refine LeftW.turn (by kernel_rfl) S62 ?_; clear S62
        change WA _ _ _ _ _ _ _ _ _ _ _ _ [_, _, _]
        refine wa_end (by kernel_rfl) (fun w55 S63 => ?_)
        refine nm_sub [(0, _), (1, _), (5, _), (8, _), (9, _), (10, _), (11, _), (12, _)] ⟨rfl, rfl, rfl, rfl, rfl, rfl, rfl, rfl, trivial⟩ ?_
        refine nm_thn ?_
        refine ws_draw rfl (by kernel_rfl) S63 11 rfl ?_
        clear S63
        refine wa_takeP (i := 0) (d := 82) 10 rfl (by kernel_rfl) (by kernel_rfl) (by kernel_rfl) rfl rfl rfl (fun w56 => run_move rfl rfl) ?_
        refine wa_takeP (i := 1) (d := 83) 9 rfl (by kernel_rfl) (by kernel_rfl) (by kernel_rfl) rfl rfl rfl (fun w57 => run_move rfl rfl) ?_
        refine wa_take (i := 2) (d := 84) 8 rfl (by kernel_rfl) (by kernel_rfl) (by kernel_rfl) rfl rfl rfl (fun M44 N36 w58 hle44 S66 => .inl (run_indexR (C := (cdV 43)) (i := 1) r rfl rfl rfl sl37 S66.suf rfl (by first | rfl | omega) (by first | omega | (simp only [lens]; omega)))) ?_
        refine wa_take (i := 3) (d := 85) 7 rfl (by kernel_rfl) (by kernel_rfl) (by kernel_rfl) rfl rfl rfl (fun M45 N37 w59 hle45 S67 => .inl (run_load1 rfl rfl Try.underlying43 rfl (S67.suf.rowc (i := 1) (e := r) (j := 0) rfl (by first | omega | (simp only [lens]; omega)) rfl rfl))) ?_
        refine wa_takeP (i := 4) (d := 86) 6 rfl (by kernel_rfl) (by kernel_rfl) (by kernel_rfl) rfl rfl rfl (fun w60 => run_move rfl rfl) ?_
        refine wa_takeP (i := 5) (d := 87) 5 rfl (by kernel_rfl) (by kernel_rfl) (by kernel_rfl) rfl rfl rfl (fun w61 => run_move rfl rfl) ?_
        refine wa_take (i := 6) (d := 88) 4 rfl (by kernel_rfl) (by kernel_rfl) (by kernel_rfl) rfl rfl rfl (fun M48 N40 w62 hle48 S70 => .inl (run_build (l := [_, _]) rfl rfl st86 rfl rfl)) ?_
        refine wa_only (i := 7) 3 rfl (by kernel_rfl) rfl rfl (fun w64 S72 => ?_)
        refine (wo_buildSlice1 (C := cdTm) (l := [_, _]) rfl rfl rfl rfl sl22 rfl rfl rfl rfl S72 ?_)
        intro gb5 w65 S73; clear S72
        refine LeftW.grow [_] (Hp.le_refl _) S73 ?_; clear S73
        change WA _ _ _ _ _ _ _ _ _ _ _ _ [_, _, _, _]
        refine wa_only (i := 8) 2 rfl (by kernel_rfl) rfl rfl (fun w67 S75 => ?_)
        obtain ⟨M51, hle51, S76, hr8⟩ := S75.pubbox (C := cdTm) (z := (⟨1, 1⟩ : Tm)) (i := 0) (H' := [_, _, _, _]) rfl rfl rfl (by decide)
        clear S75
        replace hl := hl.mono (Hp.un_mono hle51 S76.mx)
        replace hT0 := hT0.mono hle51
        replace hr2 := hr2.mono hle51
        replace hT1 := hT1.mono hle51
        replace hT2 := hT2.mono hle51
        replace hr3 := hr3.mono hle51
        replace hr4 := hr4.mono hle51
        replace hr5 := hr5.mono hle51
        replace hr6 := hr6.mono hle51
        replace hr7 := hr7.mono hle51
        replace hTt2 := hTt2.mono hle51
        refine (wo_ct rfl rfl rfl rfl rfl rfl rfl cf18 S76 (Product_t (ga (ga mm2 r) (ix (ga l j))) ([(⟨1, 1⟩ : Tm)]) hr3 hr8 (B2) (1) (hbx) ((bd_le (by simp))) ((by omega)) S76.lend) ?_)
        intro vw68 w68 M52 hle52 S77 hRw68; clear S76
        replace hl := hl.mono (Hp.un_mono hle52 S77.mx)
        replace hT0 := hT0.mono hle52
        replace hr2 := hr2.mono hle52
        replace hT1 := hT1.mono hle52
        replace hT2 := hT2.mono hle52
        replace hr3 := hr3.mono hle52
        replace hr4 := hr4.mono hle52
        replace hr5 := hr5.mono hle52
        replace hr6 := hr6.mono hle52
        replace hr7 := hr7.mono hle52
        replace hTt2 := hTt2.mono hle52
        replace hr8 := hr8.mono hle52
        obtain ⟨A4, c4, l3, rfl, hr9, hcan3, hbd3, hmk3⟩ := hRw68
        refine LeftW.grow [_] (hle51.trans hle52) S77 ?_; clear S77
        change WA _ _ _ _ _ _ _ _ _ _ _ _ [_, _, _, _]
        refine wa_base ?_
        refine wa_take (i := 9) (d := 91) 1 rfl (by kernel_rfl) (by kernel_rfl) (by kernel_rfl) rfl rfl rfl (fun M53 N43 w69 hle53 S78 => .inl (run_indexT (C := (cdV 22)) (vs := vs2) (xss := (xs2.set r ((ga xs2 r).set (ix (ga l j)) (⟨A3, l2.length, c3⟩ : SlV)))) (i := 3) r (ix (ga l j) + 1) rfl rfl rfl rfl sl43 S78.suf rfl (by first | omega | (simp only [lens]; omega) | (rw [ga_set _ _ _ _ (by first | omega | (simp only [List.length_set]; omega)), if_pos rfl]; simp only [List.length_set]; omega)) (by first | rfl | omega) (by first | omega | (simp only [lens]; omega) | (rw [ga_set _ _ _ _ (by first | omega | (simp only [List.length_set]; omega)), if_pos rfl]; simp only [List.length_set]; omega)))) ?_
        refine wa_only (i := 10) 0 rfl (by kernel_rfl) rfl rfl (fun w71 S80 => ?_)
        refine (wo_storeT (C := (cdV 22)) (vs := vs2) (xss := (xs2.set r ((ga xs2 r).set (ix (ga l j)) (⟨A3, l2.length, c3⟩ : SlV)))) (i := 3) (k := r) (e := ix (ga l j) + 1) (j := 0) (us := [_]) (H' := [_, _, _, _]) (⟨A4, l3.length, c4⟩ : SlV) rfl rfl S80 rfl (by first | omega | (simp only [lens]; omega) | (rw [ga_set _ _ _ _ (by first | omega | (simp only [List.length_set]; omega)), if_pos rfl]; simp only [List.length_set]; omega)) (by first | omega | (simp only [lens]; omega) | (rw [ga_set _ _ _ _ (by first | omega | (simp only [List.length_set]; omega)), if_pos rfl]; simp only [List.length_set]; omega)) rfl rfl rfl sz22 rfl rfl rfl rfl ?_)
        intro w72 S81; clear S80
        have hTt3 := hTt2.put r (ix (ga l j) + 1) hr9 (by first | omega | (simp only [lens]; omega) | (rw [ga_set _ _ _ _ (by first | omega | (simp only [List.length_set]; omega)), if_pos rfl]; simp only [List.length_set]; omega)) (by first | omega | (simp only [lens]; omega) | (rw [ga_set _ _ _ _ (by first | omega | (simp only [List.length_set]; omega)), if_pos rfl]; simp only [List.length_set]; omega))
        refine LeftW.turn (by kernel_rfl) S81 ?_; clear S81
        change WA _ _ _ _ _ _ _ _ _ _ _ _ [_, _, _, _]
        refine wa_end (by kernel_rfl) (fun w73 S82 => ?_)
        refine nm_blk ?_
        refine nm_sub [(0, _), (1, _), (5, _), (8, _), (9, _), (10, _), (11, _)] ⟨rfl, rfl, rfl, rfl, rfl, rfl, rfl, trivial⟩ ?_
        refine nm_thn ?_
        refine ws_region rfl ?_
        refine wlm 0 1 rfl rfl rfl rfl rfl rfl rfl ?_
        refine wlo 1 2 rfl rfl rfl (wo_run rfl rfl (run_add rfl rfl rfl (by first | omega | (simp only [lens]; omega))) ?_)
        refine wla 2 3 rfl rfl rfl rfl rfl rfl rfl ?_
        refine wl_end rfl ?_
        refine nm_lp ?_
        intro ax_ hax_
        refine ⟨_, ?hq5m, ⟨r + 1, (B2 + 2), _, _, ((mm2.set r ((ga mm2 r).set (ix (ga l j)) l2)).set r ((ga (mm2.set r ((ga mm2 r).set (ix (ga l j)) l2)) r).set (ix (ga l j) + 1) l3)), _, _, (((((hle5.trans hle36).trans hle37).trans hle39).trans hle51).trans hle52), rfl, hax_.sub ⟨rfl, rfl, rfl, rfl, rfl, rfl, rfl, trivial⟩, S82.pick [2, 3] [_, _] (by decide) ⟨rfl, rfl, trivial⟩, ?hq5f0, ?hq5f1, ?hq5f2, ?hq5f3, ?hq5f4, ?hq5f5⟩⟩
        case hq5f0 => omega
        case hq5f1 => omega
        case hq5f2 => (simp only [List.length_set]; exact hl2)
        case hq5f3 => exact fun q hq => ⟨(len_put2 _ _ _ _ _ _ (by omega) q).trans (hxl2 q hq).1, (len_put2 _ _ _ _ _ _ (by omega) q).trans (hxl2 q hq).2⟩
        case hq5f4 => exact bu_rowL (B := B2) (B' := B2 + 2) ⟨hcan2, hbd2.mono (by omega), by unfold buX; rw [if_neg (by omega), hmk2, hmk1, hmx, hmy, mono_one, Pol.mul_one, pr2]⟩ ⟨hcan3, hbd3.mono (by omega), by unfold buY; rw [if_neg (by omega), hmk3, hmx, pr1]⟩ hin2 (by omega) (by omega) hix (by omega) (by omega)
        case hq5f5 => exact hTt3
        case hq5m => omega
       ·replace hb67 := of_decide_eq_false hb67
        have hneg : ga l j < 0 := by have := hz.out; omega
        refine ws_seqN BurauOf_n64 BurauOf_n65 rfl rfl rfl ?_
        refine ws_draw rfl (by kernel_rfl) S35 12 rfl ?_
        clear S35
        refine wa_takeP (i := 0) (d := 92) 11 rfl (by kernel_rfl) (by kernel_rfl) (by kernel_rfl) rfl rfl rfl (fun w74 => run_move rfl rfl) ?_
        refine wa_takeP (i := 1) (d := 93) 10 rfl (by kernel_rfl) (by kernel_rfl) (by kernel_rfl) rfl rfl rfl (fun w75 => run_move rfl rfl) ?_
        refine wa_take (i := 2) (d := 94) 9 rfl (by kernel_rfl) (by kernel_rfl) (by kernel_rfl) rfl rfl rfl (fun M57 N47 w76 hle57 S85 => .inl (run_indexR (C := (cdV 43)) (i := 0) r rfl rfl rfl sl37 S85.suf rfl (by first | rfl | omega) (by first | omega | (simp only [lens]; omega)))) ?_
        refine wa_take (i := 3) (d := 95) 8 rfl (by kernel_rfl) (by kernel_rfl) (by kernel_rfl) rfl rfl rfl (fun M58 N48 w77 hle58 S86 => .inl (run_load1 rfl rfl Try.underlying43 rfl (S86.suf.rowc (i := 0) (e := r) (j := 0) rfl (by first | omega | (simp only [lens]; omega)) rfl rfl))) ?_
        refine wa_takeP (i := 4) (d := 96) 7 rfl (by kernel_rfl) (by kernel_rfl) (by kernel_rfl) rfl rfl rfl (fun w78 => run_move rfl rfl) ?_
        refine wa_takeP (i := 5) (d := 97) 6 rfl (by kernel_rfl) (by kernel_rfl) (by kernel_rfl) rfl rfl rfl (fun w79 => run_sub rfl rfl rfl (by first | omega | (simp only [lens]; omega))) ?_
        refine wa_takeP (i := 6) (d := 98) 5 rfl (by kernel_rfl) (by kernel_rfl) (by kernel_rfl) rfl rfl rfl (fun w80 => run_move rfl rfl) ?_
        refine wa_take (i := 7) (d := 99) 4 rfl (by kernel_rfl) (by kernel_rfl) (by kernel_rfl) rfl rfl rfl (fun M62 N52 w81 hle62 S90 => .inl (run_build (l := [_, _]) rfl rfl st86 rfl rfl)) ?_
        refine wa_only (i := 8) 3 rfl (by kernel_rfl) rfl rfl (fun w83 S92 => ?_)
        refine (wo_buildSlice1 (C := cdTm) (l := [_, _]) rfl rfl rfl rfl sl22 rfl rfl rfl rfl S92 ?_)
        intro gb6 w84 S93; clear S92
        refine LeftW.grow [_] (Hp.le_refl _) S93 ?_; clear S93
        change WA _ _ _ _ _ _ _ _ _ _ _ _ [_, _, _]
        refine wa_only (i := 9) 2 rfl (by kernel_rfl) rfl rfl (fun w86 S95 => ?_)
        obtain ⟨M65, hle65, S96, hr10⟩ := S95.pubbox (C := cdTm) (z := (⟨(-1), 1⟩ : Tm)) (i := 0) (H' := [_, _, _]) rfl rfl rfl (by decide)
        clear S95
        replace hl := hl.mono (Hp.un_mono hle65 S96.mx)
        replace hT0 := hT0.mono hle65
        replace hr2 := hr2.mono hle65
        replace hT1 := hT1.mono hle65
        replace hT2 := hT2.mono hle65
        replace hr3 := hr3.mono hle65
        replace hr4 := hr4.mono hle65
        refine (wo_ct rfl rfl rfl rfl rfl rfl rfl cf18 S96 (Product_t (ga (ga mm2 r) (ix (ga l j) + 1)) ([(⟨(-1), 1⟩ : Tm)]) hr4 hr10 (B2) (1) (hby) ((bd_le (by simp))) ((by omega)) S96.lend) ?_)
        intro vw87 w87 M66 hle66 S97 hRw87; clear S96
        replace hl := hl.mono (Hp.un_mono hle66 S97.mx)
        replace hT0 := hT0.mono hle66
        replace hr2 := hr2.mono hle66
        replace hT1 := hT1.mono hle66
        replace hT2 := hT2.mono hle66
        replace hr3 := hr3.mono hle66
        replace hr4 := hr4.mono hle66
        replace hr10 := hr10.mono hle66
        obtain ⟨A5, c5, l4, rfl, hr11, hcan4, hbd4, hmk4⟩ := hRw87
        refine LeftW.grow [_] (hle65.trans hle66) S97 ?_; clear S97
        change WA _ _ _ _ _ _ _ _ _ _ _ _ [_, _, _]
        refine wa_base ?_
        refine wa_take (i := 10) (d := 102) 1 rfl (by kernel_rfl) (by kernel_rfl) (by kernel_rfl) rfl rfl rfl (fun M67 N55 w88 hle67 S98 => .inl (run_indexT (C := (cdV 22)) (vs := vs2) (xss := xs2) (i := 2) r (ix (ga l j)) rfl rfl rfl rfl sl43 S98.suf rfl (by first | omega | (simp only [lens]; omega) | (rw [ga_set _ _ _ _ (by first | omega | (simp only [List.length_set]; omega)), if_pos rfl]; simp only [List.length_set]; omega)) (by first | rfl | omega) (by first | omega | (simp only [lens]; omega) | (rw [ga_set _ _ _ _ (by first | omega | (simp only [List.length_set]; omega)), if_pos rfl]; simp only [List.length_set]; omega)))) ?_
        refine wa_only (i := 11) 0 rfl (by kernel_rfl) rfl rfl (fun w90 S100 => ?_)
        refine (wo_storeT (C := (cdV 22)) (vs := vs2) (xss := xs2) (i := 2) (k := r) (e := ix (ga l j)) (j := 0) (us := [_]) (H' := [_, _, _]) (⟨A5, l4.length, c5⟩ : SlV) rfl rfl S100 rfl (by first | omega | (simp only [lens]; omega) | (rw [ga_set _ _ _ _ (by first | omega | (simp only [List.length_set]; omega)), if_pos rfl]; simp only [List.length_set]; omega)) (by first | omega | (simp only [lens]; omega) | (rw [ga_set _ _ _ _ (by first | omega | (simp only [List.length_set]; omega)), if_pos rfl]; simp only [List.length_set]; omega)) rfl rfl rfl sz22 rfl rfl rfl rfl ?_)
        intro w91 S101; clear S100
        have hTt4 := hT2.put r (ix (ga l j)) hr11 (by first | omega | (simp only [lens]; omega) | (rw [ga_set _ _ _ _ (by first | omega | (simp only [List.length_set]; omega)), if_pos rfl]; simp only [List.length_set]; omega)) (by first | omega | (simp only [lens]; omega) | (rw [ga_set _ _ _ _ (by first | omega | (simp only [List.length_set]; omega)), if_pos rfl]; simp only [List.length_set]; omega))
        refine LeftW.turn (by kernel_rfl) S101 ?_; clear S101
        change WA _ _ _ _ _ _ _ _ _ _ _ _ [_, _, _]
        refine wa_end (by kernel_rfl) (fun w92 S102 => ?_)
        refine nm_sub [(0, _), (1, _), (5, _), (8, _), (9, _), (10, _), (11, _), (12, _), (13, _)] ⟨rfl, rfl, rfl, rfl, rfl, rfl, rfl, rfl, rfl, trivial⟩ ?_
        refine nm_thn ?_
        refine ws_draw rfl (by kernel_rfl) S102 15 rfl ?_
        clear S102
        refine wa_takeP (i := 0) (d := 103) 14 rfl (by kernel_rfl) (by kernel_rfl) (by kernel_rfl) rfl rfl rfl (fun w93 => run_move rfl rfl) ?_
        refine wa_takeP (i := 1) (d := 104) 13 rfl (by kernel_rfl) (by kernel_rfl) (by kernel_rfl) rfl rfl rfl (fun w94 => run_move rfl rfl) ?_
        refine wa_take (i := 2) (d := 105) 12 rfl (by kernel_rfl) (by kernel_rfl) (by kernel_rfl) rfl rfl rfl (fun M71 N59 w95 hle71 S105 => .inl (run_indexR (C := (cdV 43)) (i := 1) r rfl rfl rfl sl37 S105.suf rfl (by first | rfl | omega) (by first | omega | (simp only [lens]; omega)))) ?_
        refine wa_take (i := 3) (d := 106) 11 rfl (by kernel_rfl) (by kernel_rfl) (by kernel_rfl) rfl rfl rfl (fun M72 N60 w96 hle72 S106 => .inl (run_load1 rfl rfl Try.underlying43 rfl (S106.suf.rowc (i := 1) (e := r) (j := 0) rfl (by first | omega | (simp only [lens]; omega)) rfl rfl))) ?_
        refine wa_takeP (i := 4) (d := 107) 10 rfl (by kernel_rfl) (by kernel_rfl) (by kernel_rfl) rfl rfl rfl (fun w97 => run_move rfl rfl) ?_
        refine wa_takeP (i := 5) (d := 108) 9 rfl (by kernel_rfl) (by kernel_rfl) (by kernel_rfl) rfl rfl rfl (fun w98 => run_move rfl rfl) ?_
        refine wa_takeP (i := 6) (d := 109) 8 rfl (by kernel_rfl) (by kernel_rfl) (by kernel_rfl) rfl rfl rfl (fun w99 => run_move rfl rfl) ?_
        refine wa_takeP (i := 7) (d := 110) 7 rfl (by kernel_rfl) (by kernel_rfl) (by kernel_rfl) rfl rfl rfl (fun w100 => run_move rfl rfl) ?_
        refine wa_take (i := 8) (d := 111) 6 rfl (by kernel_rfl) (by kernel_rfl) (by kernel_rfl) rfl rfl rfl (fun M77 N65 w101 hle77 S111 => .inl (run_build (l := [_, _]) rfl rfl st86 rfl rfl)) ?_
        refine wa_only (i := 9) 5 rfl (by kernel_rfl) rfl rfl (fun w103 S113 => ?_)
        refine (wo_buildSlice1 (C := cdTm) (l := [_, _]) rfl rfl rfl rfl sl22 rfl rfl rfl rfl S113 ?_)
        intro gb7 w104 S114; clear S113
        refine LeftW.grow [_] (Hp.le_refl _) S114 ?_; clear S114
        change WA _ _ _ _ _ _ _ _ _ _ _ _ [_, _, _, _]
        refine wa_only (i := 10) 4 rfl (by kernel_rfl) rfl rfl (fun w106 S116 => ?_)
        obtain ⟨M80, hle80, S117, hr12⟩ := S116.pubbox (C := cdTm) (z := (⟨(-1), 1⟩ : Tm)) (i := 0) (H' := [_, _, _, _]) rfl rfl rfl (by decide)
        clear S116
        replace hl := hl.mono (Hp.un_mono hle80 S117.mx)
        replace hT0 := hT0.mono hle80
        replace hr2 := hr2.mono hle80
        replace hT1 := hT1.mono hle80
        replace hT2 := hT2.mono hle80
        replace hr3 := hr3.mono hle80
        replace hr4 := hr4.mono hle80
        replace hr10 := hr10.mono hle80
        replace hr11 := hr11.mono hle80
        replace hTt4 := hTt4.mono hle80
        refine (wo_ct rfl rfl rfl rfl rfl rfl rfl cf17 S117 (Sum_t ([(⟨0, 1⟩ : Tm)]) ([(⟨(-1), 1⟩ : Tm)]) (-1) hr2 hr12 (1) ((can_one (by omega) (by omega))) (((bd_le (by simp)).mono (by omega))) (((bd_le (by simp)).mono (by omega))) ((by omega)) S117.lend) ?_)
        intro vw107 w107 M81 hle81 S118 hRw107; clear S117
        replace hl := hl.mono (Hp.un_mono hle81 S118.mx)
        replace hT0 := hT0.mono hle81
        replace hr2 := hr2.mono hle81
        replace hT1 := hT1.mono hle81
        replace hT2 := hT2.mono hle81
        replace hr3 := hr3.mono hle81
        replace hr4 := hr4.mono hle81
        replace hr10 := hr10.mono hle81
        replace hr11 := hr11.mono hle81
        replace hTt4 := hTt4.mono hle81
        replace hr12 := hr12.mono hle81
        obtain ⟨A6, c6, l5, rfl, hr13, hcan5, hbd5, hmk5⟩ := hRw107
        refine LeftW.grow [_] (hle80.trans hle81) S118 ?_; clear S118
        change WA _ _ _ _ _ _ _ _ _ _ _ _ [_, _, _, _]
        refine wa_base ?_
        refine wa_only (i := 11) 3 rfl (by kernel_rfl) rfl rfl (fun w109 S120 => ?_)
        refine (wo_ct rfl rfl rfl rfl rfl rfl rfl cf18 S120 (Product_t (ga (ga mm2 r) (ix (ga l j) + 1)) l5 hr4 hr13 (B2) (1) (hby) (hbd5) ((by omega)) S120.lend) ?_)
        intro vw110 w110 M83 hle83 S121 hRw110; clear S120
        replace hl := hl.mono (Hp.un_mono hle83 S121.mx)
        replace hT0 := hT0.mono hle83
        replace hr2 := hr2.mono hle83
        replace hT1 := hT1.mono hle83
        replace hT2 := hT2.mono hle83
        replace hr3 := hr3.mono hle83
        replace hr4 := hr4.mono hle83
        replace hr10 := hr10.mono hle83
        replace hr11 := hr11.mono hle83
        replace hTt4 := hTt4.mono hle83
        replace hr12 := hr12.mono hle83
        replace hr13 := hr13.mono hle83
        obtain ⟨A7, c7, l6, rfl, hr14, hcan6, hbd6, hmk6⟩ := hRw110
        refine LeftW.grow [] (hle83) S121 ?_; clear S121
        change WA _ _ _ _ _ _ _ _ _ _ _ _ [_, _, _, _]
        refine wa_base ?_
        refine wa_only (i := 12) 2 rfl (by kernel_rfl) rfl rfl (fun w112 S123 => ?_)
        refine (wo_ct rfl rfl rfl rfl rfl rfl rfl cf17 S123 (Sum_t (ga (ga mm2 r) (ix (ga l j))) l6 1 hr3 hr14 ((B2 + 1)) (hcx) ((hbx.mono (by omega))) ((hbd6.mono (by omega))) ((by omega)) S123.lend) ?_)
        intro vw113 w113 M85 hle85 S124 hRw113; clear S123
        replace hl := hl.mono (Hp.un_mono hle85 S124.mx)
        replace hT0 := hT0.mono hle85
        replace hr2 := hr2.mono hle85
        replace hT1 := hT1.mono hle85
        replace hT2 := hT2.mono hle85
        replace hr3 := hr3.mono hle85
        replace hr4 := hr4.mono hle85
        replace hr10 := hr10.mono hle85
        replace hr11 := hr11.mono hle85
        replace hTt4 := hTt4.mono hle85
        replace hr12 := hr12.mono hle85
        replace hr13 := hr13.mono hle85
        replace hr14 := hr14.mono hle85
        obtain ⟨A8, c8, l7, rfl, hr15, hcan7, hbd7, hmk7⟩ := hRw113
        refine LeftW.grow [] (hle85) S124 ?_; clear S124
        change WA _ _ _ _ _ _ _ _ _ _ _ _ [_, _, _, _]
        refine wa_base ?_
        refine wa_take (i := 13) (d := 116) 1 rfl (by kernel_rfl) (by kernel_rfl) (by kernel_rfl) rfl rfl rfl (fun M86 N70 w114 hle86 S125 => .inl (run_indexT (C := (cdV 22)) (vs := vs2) (xss := (xs2.set r ((ga xs2 r).set (ix (ga l j)) (⟨A5, l4.length, c5⟩ : SlV)))) (i := 3) r (ix (ga l j) + 1) rfl rfl rfl rfl sl43 S125.suf rfl (by first | omega | (simp only [lens]; omega) | (rw [ga_set _ _ _ _ (by first | omega | (simp only [List.length_set]; omega)), if_pos rfl]; simp only [List.length_set]; omega)) (by first | rfl | omega) (by first | omega | (simp only [lens]; omega) | (rw [ga_set _ _ _ _ (by first | omega | (simp only [List.length_set]; omega)), if_pos rfl]; simp only [List.length_set]; omega)))) ?_
        refine wa_only (i := 14) 0 rfl (by kernel_rfl) rfl rfl (fun w116 S127 => ?_)
        refine (wo_storeT (C := (cdV 22)) (vs := vs2) (xss := (xs2.set r ((ga xs2 r).set (ix (ga l j)) (⟨A5, l4.length, c5⟩ : SlV)))) (i := 3) (k := r) (e := ix (ga l j) + 1) (j := 0) (us := [_]) (H' := [_, _, _, _]) (⟨A8, l7.length, c8⟩ : SlV) rfl rfl S127 rfl (by first | omega | (simp only [lens]; omega) | (rw [ga_set _ _ _ _ (by first | omega | (simp only [List.length_set]; omega)), if_pos rfl]; simp only [List.length_set]; omega)) (by first | omega | (simp only [lens]; omega) | (rw [ga_set _ _ _ _ (by first | omega | (simp only [List.length_set]; omega)), if_pos rfl]; simp only [List.length_set]; omega)) rfl rfl rfl sz22 rfl rfl rfl rfl ?_)
        intro w117 S128; clear S127
        have hTt5 := hTt4.put r (ix (ga l j) + 1) hr15 (by first | omega | (simp only [lens]; omega) | (rw [ga_set _ _ _ _ (by first | omega | (simp only [List.length_set]; omega)), if_pos rfl]; simp only [List.length_set]; omega)) (by first | omega | (simp only [lens]; omega) | (rw [ga_set _ _ _ _ (by first | omega | (simp only [List.length_set]; omega)), if_pos rfl]; simp only [List.length_set]; omega))
        refine LeftW.turn (by kernel_rfl) S128 ?_; clear S128
        change WA _ _ _ _ _ _ _ _ _ _ _ _ [_, _, _, _]
        refine wa_end (by kernel_rfl) (fun w118 S129 => ?_)
        refine nm_blk ?_
        refine nm_sub [(0, _), (1, _), (5, _), (8, _), (9, _), (10, _), (11, _)] ⟨rfl, rfl, rfl, rfl, rfl, rfl, rfl, trivial⟩ ?_
        refine nm_thn ?_
        refine ws_region rfl ?_
        refine wlm 0 1 rfl rfl rfl rfl rfl rfl rfl ?_
        refine wlo 1 2 rfl rfl rfl (wo_run rfl rfl (run_add rfl rfl rfl (by first | omega | (simp only [lens]; omega))) ?_)
        refine wla 2 3 rfl rfl rfl rfl rfl rfl rfl ?_
        refine wl_end rfl ?_
        refine nm_lp ?_
        intro ax_ hax_
        refine ⟨_, ?hq6m, ⟨r + 1, (B2 + 2), _, _, ((mm2.set r ((ga mm2 r).set (ix (ga l j)) l4)).set r ((ga (mm2.set r ((ga mm2 r).set (ix (ga l j)) l4)) r).set (ix (ga l j) + 1) l7)), _, _, ((((((hle5.trans hle65).trans hle66).trans hle80).trans hle81).trans hle83).trans hle85), rfl, hax_.sub ⟨rfl, rfl, rfl, rfl, rfl, rfl, rfl, trivial⟩, S129.pick [2, 3] [_, _] (by decide) ⟨rfl, rfl, trivial⟩, ?hq6f0, ?hq6f1, ?hq6f2, ?hq6f3, ?hq6f4, ?hq6f5⟩⟩
        case hq6f0 => omega
        case hq6f1 => omega
        case hq6f2 => (simp only [List.length_set]; exact hl2)
        case hq6f3 => exact fun q hq => ⟨(len_put2 _ _ _ _ _ _ (by omega) q).trans (hxl2 q hq).1, (len_put2 _ _ _ _ _ _ (by omega) q).trans (hxl2 q hq).2⟩
        case hq6f4 => exact bu_rowL (B := B2) (B' := B2 + 2) ⟨hcan4, hbd4.mono (by omega), by unfold buX; rw [if_pos (by omega), hmk4, hmy, pr1]⟩ ⟨hcan7, hbd7.mono (by omega), by unfold buY; rw [if_pos (by omega), hmk7, hmk6, hmk5, pra, hmx, hmy, mono_one, Pol.mul_one]⟩ hin2 (by omega) (by omega) hix (by omega) (by omega)
        case hq6f5 => exact hTt5
        case hq6m => omega
      ·replace hb45 := of_decide_eq_false hb45
       refine ws_exit rfl rfl ?_
       refine nm_blk ?_
       refine nm_sub [(0, _), (1, _), (5, _), (8, _), (9, _)] ⟨rfl, rfl, rfl, rfl, rfl, trivial⟩ ?_
       refine nm_thn ?_
       refine ws_region rfl ?_
       refine wlm 0 1 rfl rfl rfl rfl rfl rfl rfl ?_
       refine wlo 1 2 rfl rfl rfl (wo_run rfl rfl (run_add rfl rfl rfl (by first | omega | (simp only [lens]; omega))) ?_)
       refine wla 2 3 rfl rfl rfl rfl rfl rfl rfl ?_
       refine wl_end rfl ?_
       refine nm_lp ?_
       intro ax_ hax_
       refine ⟨_, ?hq7m, ⟨j + 1, B2, _, _, mm2, _, _, (hle4.trans hle5), rfl, hax_.sub ⟨rfl, rfl, rfl, rfl, rfl, trivial⟩, S17.pick [0, 1] [_, _] (by decide) ⟨rfl, rfl, trivial⟩, ?hq7f0, ?hq7f1, ?hq7f2, ?hq7f3, ?hq7f4, ?hq7f5⟩⟩
       case hq7f0 => omega
       case hq7f1 => omega
       case hq7f2 => exact hl2
       case hq7f3 => exact hxl2
       case hq7f4 => (intro q hq c hc; have := hin2 q hq c hc; rwa [if_pos (by omega)] at this)
       case hq7f5 => exact hT2
       case hq7m => omega
    ·replace hb35 := of_decide_eq_false hb35
     refine ws_exit rfl rfl ?_
     refine nm_sub [(5, _)] ⟨rfl, trivial⟩ ?_
     refine nm_thn ?_
     refine ws_seqN BurauOf_n66 BurauOf_n67 rfl rfl rfl ?_
     refine ws_region rfl ?_
     refine wlm 0 1 rfl rfl rfl rfl rfl rfl rfl ?_
     refine wla 1 2 rfl rfl rfl rfl rfl rfl rfl ?_
     refine wl_end rfl ?_
     refine nm_sub [(4, _)] ⟨rfl, trivial⟩ ?_
     refine nm_thn ?_
     obtain ⟨M88, hle88, S130, hd3⟩ := S15.pubtab (i := 1) (H' := [_, _]) rfl rfl (by (intro q hq; have := (hxl1 q (by omega)).1; show _ * 24 ≤ _; omega))
     clear S15
     replace hl := hl.mono (Hp.un_mono hle88 S130.mx)
     replace hT0 := hT0.mono hle88
     replace hr2 := hr2.mono hle88
     replace hT1 := hT1.mono hle88
     obtain ⟨M89, hle89, S131, ⟨A9, c9, e1, hr16⟩⟩ := S130.pubrow (i := 0) (H' := [_, _]) rfl rfl (by show _ * 24 ≤ _; first | omega | (simp only [lens]; omega))
     clear S130; subst e1
     replace hl := hl.mono (Hp.un_mono hle89 S131.mx)
     replace hT0 := hT0.mono hle89
     replace hr2 := hr2.mono hle89
     replace hT1 := hT1.mono hle89
     replace hd3 := hd3.mono hle89
     refine ws_ret hC [_] rfl rfl ⟨rfl, trivial⟩ ?_
     refine ⟨_, rfl, _, (((hle1.trans hle3).trans hle4).trans hle88).trans hle89, (S131.pick [] [] (by decide) trivial), ?_⟩
     obtain rfl : j = l.length := by omega
     refine ⟨_, _, _, _, mm1, rfl, hr16, hd3, hT1, ?_⟩
     subst hm
     exact ⟨by omega, fun q hq => ⟨by have := (hxl1 q (by omega)).2; omega, fun c hc => by have h9 := hin1 q (by omega) c (by omega); exact ⟨h9.1, h9.2.2⟩⟩⟩
end Go.Proofs.Ytkcighnochjlgaa
namespace Go.Proofs.Ytkcighnochjlgaa
open Go.ChangeShapes Go.WideShapes Go.ChangeAt Go.RowKit
noncomputable def ClosureTables_n0 : Code := Try.f5.body.getD .skip
noncomputable def ClosureTables_n1 : Code := cL ClosureTables_n0
noncomputable def ClosureTables_n2 : Code := cR ClosureTables_n0
noncomputable def ClosureTables_n3 : Code := cL ClosureTables_n2
noncomputable def ClosureTables_n4 : Code := cR ClosureTables_n2
noncomputable def ClosureTables_n5 : Code := cL ClosureTables_n4
noncomputable def ClosureTables_n6 : Code := cR ClosureTables_n4
noncomputable def ClosureTables_n7 : Code := cL ClosureTables_n6
noncomputable def ClosureTables_n8 : Code := cR ClosureTables_n6
noncomputable def ClosureTables_n9 : Code := cL ClosureTables_n7
noncomputable def ClosureTables_n10 : Code := cR ClosureTables_n7
noncomputable def ClosureTables_n11 : Code := cL ClosureTables_n10
noncomputable def ClosureTables_n12 : Code := cR ClosureTables_n10
noncomputable def ClosureTables_n13 : Code := cL ClosureTables_n11
noncomputable def ClosureTables_n14 : Code := cR ClosureTables_n11
noncomputable def ClosureTables_n15 : Code := cL ClosureTables_n8
noncomputable def ClosureTables_n16 : Code := cR ClosureTables_n8
noncomputable def ClosureTables_n17 : Code := cL ClosureTables_n16
noncomputable def ClosureTables_n18 : Code := cR ClosureTables_n16
noncomputable def ClosureTables_n19 : Code := cL ClosureTables_n17
noncomputable def ClosureTables_n20 : Code := cR ClosureTables_n17
noncomputable def ClosureTables_n21 : Code := cL ClosureTables_n20
noncomputable def ClosureTables_n22 : Code := cR ClosureTables_n20
noncomputable def ClosureTables_n23 : Code := cL ClosureTables_n21
noncomputable def ClosureTables_n24 : Code := cR ClosureTables_n21
noncomputable def ClosureTables_n25 : Code := cL ClosureTables_n18
noncomputable def ClosureTables_n26 : Code := cR ClosureTables_n18
noncomputable def ClosureTables_n27 : Code := cL ClosureTables_n25
noncomputable def ClosureTables_n28 : Code := cR ClosureTables_n25
noncomputable def ClosureTables_n29 : Code := cL ClosureTables_n28
noncomputable def ClosureTables_n30 : Code := cL ClosureTables_n29
noncomputable def ClosureTables_n31 : Code := cL ClosureTables_n30
noncomputable def ClosureTables_n32 : Code := cR ClosureTables_n30
noncomputable def ClosureTables_n33 : Code := cL ClosureTables_n31
noncomputable def ClosureTables_n34 : Code := cR ClosureTables_n31
noncomputable def ClosureTables_n35 : Code := cL ClosureTables_n34
noncomputable def ClosureTables_n36 : Code := cR ClosureTables_n34
noncomputable def ClosureTables_n37 : Code := cL ClosureTables_n32
noncomputable def ClosureTables_n38 : Code := cR ClosureTables_n32
noncomputable def ClosureTables_n39 : Code := cL ClosureTables_n37
noncomputable def ClosureTables_n40 : Code := cL ClosureTables_n39
noncomputable def ClosureTables_n41 : Code := cR ClosureTables_n39
noncomputable def ClosureTables_n42 : Code := cL ClosureTables_n40
noncomputable def ClosureTables_n43 : Code := cR ClosureTables_n40
noncomputable def ClosureTables_n44 : Code := cL ClosureTables_n43
noncomputable def ClosureTables_n45 : Code := cR ClosureTables_n43
noncomputable def ClosureTables_n46 : Code := cL ClosureTables_n41
noncomputable def ClosureTables_n47 : Code := cR ClosureTables_n41
noncomputable def ClosureTables_n48 : Code := cL ClosureTables_n47
noncomputable def ClosureTables_n49 : Code := cL ClosureTables_n48
noncomputable def ClosureTables_n50 : Code := cL ClosureTables_n49
noncomputable def ClosureTables_n51 : Code := cR ClosureTables_n49
noncomputable def ClosureTables_n52 : Code := cL ClosureTables_n50
noncomputable def ClosureTables_n53 : Code := cR ClosureTables_n50
noncomputable def ClosureTables_n54 : Code := cL ClosureTables_n53
noncomputable def ClosureTables_n55 : Code := cR ClosureTables_n53
noncomputable def ClosureTables_n56 : Code := cL ClosureTables_n51
noncomputable def ClosureTables_n57 : Code := cR ClosureTables_n51
noncomputable def ClosureTables_n58 : Code := cL ClosureTables_n56
noncomputable def ClosureTables_n59 : Code := cL ClosureTables_n58
noncomputable def ClosureTables_n60 : Code := cR ClosureTables_n58
noncomputable def ClosureTables_n62 : Code := cR ClosureTables_n60
noncomputable def ClosureTables_n63 : Code := cL ClosureTables_n26
noncomputable def ClosureTables_n64 : Code := cR ClosureTables_n26
set_option maxHeartbeats 1000000 in
set_option maxRecDepth 10000 in
theorem ClosureTables_t {w : World} {M : Hp} {X : Fr} (n : Int) (l : List Int) {lA : Option Addr} {lc : Nat} (hl : RdA cdInt M lA lc l) (S : SH w M X []) : Ct Try.prog 5 [.int .i64 n, .slice lA l.length lc] w M X (fun u _ => u = .bool true) := by
 unfold Ct
 have rmhl : l.length * 8 ≤ 140737488355328 := hl.room
 have hmc := mayI_check n l
 refine calls_in (b := ClosureTables_n0) Try.func5 rfl Try.ntmps5 rfl (fun C hC => ?_)
 refine ws_sub [(0, _), (1, _)] ⟨rfl, rfl, trivial⟩ ?_
 refine ws_seqN ClosureTables_n1 ClosureTables_n2 rfl rfl rfl ?_
 refine ws_region rfl ?_
 refine wla 0 1 rfl rfl rfl rfl rfl rfl rfl ?_
 refine wl_end rfl ?_
 refine nm_sub [(0, _), (1, _)] ⟨rfl, rfl, trivial⟩ ?_
 refine nm_thn ?_
 refine ws_seqN ClosureTables_n3 ClosureTables_n4 rfl rfl rfl ?_
 refine ws_region rfl ?_
 refine wlm 0 1 rfl rfl rfl rfl rfl rfl rfl ?_
 refine wlm 1 2 rfl rfl rfl rfl rfl rfl rfl ?_
 refine wlo 2 3 rfl rfl rfl (wo_ct rfl rfl rfl rfl rfl rfl rfl cf26 S (ints_t l (hl.mono (Hp.le_un _ _)) S.lend) ?_)
 intro vw1 w1 M1 hle1 S1 hRw1; clear S
 replace hl := hl.mono hle1
 obtain ⟨A1, c1, rfl, hr1⟩ := hRw1
 refine wlo 3 4 rfl rfl rfl (wo_ct rfl rfl rfl rfl rfl rfl rfl cf25 S1 (Burau_t n l (hr1.mono (Hp.le_un _ _)) S1.lend) ?_)
 intro vw2 w2 M2 hle2 S2 hRw2; clear S1
 replace hl := hl.mono hle2
 replace hr1 := hr1.mono hle2
 rcases hRw2 with ⟨hok, rfl⟩ | ⟨hok, A2, c2, vs1, ss1, om1, rfl, hr2, hd1, h31, hbk1, hbo1⟩
 ·refine wlm 4 5 rfl rfl rfl rfl rfl rfl rfl ?_
  refine wlo 5 6 rfl rfl rfl (wo_run rfl rfl (run_extract rfl rfl rfl) ?_)
  refine wlo 6 7 rfl rfl rfl (wo_run rfl rfl (run_extract rfl rfl rfl) ?_)
  refine wla 7 8 rfl rfl rfl rfl rfl rfl rfl ?_
  refine wla 8 9 rfl rfl rfl rfl rfl rfl rfl ?_
  refine wl_end rfl ?_
  refine nm_sub [(0, _), (1, _), (5, _), (6, _)] ⟨rfl, rfl, rfl, rfl, trivial⟩ ?_
  refine nm_thn ?_
  refine ws_seqN ClosureTables_n5 ClosureTables_n6 rfl rfl rfl ?_
  refine ws_region rfl ?_
  refine wlm 0 1 rfl rfl rfl rfl rfl rfl rfl ?_
  refine wlm 1 2 rfl rfl rfl rfl rfl rfl rfl ?_
  refine wlo 2 3 rfl rfl rfl (wo_cq rfl rfl rfl rfl rfl rfl rfl cf27 S2 (WordsMay_q n l [] (hl.mono (Hp.le_un _ _)) RdA.nil_ ((by simp only [List.length_nil]; omega)) S2.lend) ?_)
  rintro _ w3 S3 rfl; clear S2
  refine wla 3 4 rfl rfl rfl rfl rfl rfl rfl ?_
  refine wl_end rfl ?_
  refine nm_sub [(0, _), (1, _), (5, _), (6, _), (7, _)] ⟨rfl, rfl, rfl, rfl, rfl, trivial⟩ ?_
  refine nm_thn ?_
  refine ws_seqN ClosureTables_n7 ClosureTables_n8 rfl rfl rfl ?_
  refine ws_seqN ClosureTables_n9 ClosureTables_n10 rfl rfl rfl ?_
  refine ws_region rfl ?_
  refine wlm 0 1 rfl rfl rfl rfl rfl rfl rfl ?_
  refine wlo 1 2 rfl rfl rfl (wo_run rfl rfl (run_neq rfl rfl rfl) ?_)
  refine wl_end rfl ?_
  refine nm_sub [(0, _), (1, _), (5, _), (6, _), (7, _), (22, _)] ⟨rfl, rfl, rfl, rfl, rfl, rfl, trivial⟩ ?_
  refine nm_thn ?_
  refine ws_condN ClosureTables_n11 ClosureTables_n12 rfl rfl rfl rfl (fun hb22 => ?_) (fun hb22 => ?_)
  ·replace hb22 := of_decide_eq_true hb22
   refine ws_seqN ClosureTables_n13 ClosureTables_n14 rfl rfl rfl ?_
   refine ws_region rfl ?_
   refine wlm 0 1 rfl rfl rfl rfl rfl rfl rfl ?_
   refine wlm 1 2 rfl rfl rfl rfl rfl rfl rfl ?_
   refine wlo 2 3 rfl rfl rfl (wo_run rfl rfl (run_eql rfl rfl rfl) ?_)
   refine wlm 3 4 rfl rfl rfl rfl rfl rfl rfl ?_
   refine wl_split (t := 26) rfl (fun hg26 => ?_) (fun hg26 => ?_)
   ·replace hg26 := of_decide_eq_true hg26
    refine wl_opG (k := 4) (k' := 5) rfl rfl ⟨_, _, _, rfl, rfl, rfl, rfl⟩ rfl (wo_run rfl rfl (run_move rfl rfl) ?_)
    refine wl_opG (k := 5) (k' := 6) rfl rfl ⟨_, _, _, rfl, rfl, rfl, rfl⟩ rfl (wo_run rfl rfl (run_len rfl rfl rfl rfl rfl rfl Try.underlying37) ?_)
    refine wl_opG (k := 6) (k' := 7) rfl rfl ⟨_, _, _, rfl, rfl, rfl, rfl⟩ rfl (wo_run rfl rfl (run_eql rfl rfl rfl) ?_)
    refine wlo 7 8 rfl rfl rfl (wo_run rfl rfl (run_pickT rfl rfl rfl) ?_)
    refine wla 8 9 rfl rfl rfl rfl rfl rfl rfl ?_
    refine wl_end rfl ?_
    refine nm_sub [(4, _)] ⟨rfl, trivial⟩ ?_
    refine nm_thn ?_
    refine ws_ret hC [_] rfl rfl ⟨rfl, trivial⟩ ?_
    refine ⟨_, rfl, _, hle1.trans hle2, (S3.pick [] [] (by decide) trivial), ?_⟩
    show Value.bool _ = _
    refine congrArg Value.bool ?_
    first | rfl | (rw [decide_eq_true_iff]; omega) | (simp_all; done)
   ·replace hg26 := of_decide_eq_false hg26
    exfalso; first | omega | (simp_all; done) | contradiction
  ·replace hb22 := of_decide_eq_false hb22
   exfalso; first | omega | (simp_all; done) | contradiction
 ·have hlhd1 := hd1.1
  have hlh31 := h31.1
  obtain ⟨hn2, hn6, hl20, hlb⟩ := check_ok hok
  clear hlb
  refine wlm 4 5 rfl rfl rfl rfl rfl rfl rfl ?_
  refine wlo 5 6 rfl rfl rfl (wo_run rfl rfl (run_extract rfl rfl rfl) ?_)
  refine wlo 6 7 rfl rfl rfl (wo_run rfl rfl (run_extract rfl rfl rfl) ?_)
  refine wla 7 8 rfl rfl rfl rfl rfl rfl rfl ?_
  refine wla 8 9 rfl rfl rfl rfl rfl rfl rfl ?_
  refine wl_end rfl ?_
  refine nm_sub [(0, _), (1, _), (5, _), (6, _)] ⟨rfl, rfl, rfl, rfl, trivial⟩ ?_
  refine nm_thn ?_
  refine ws_seqN ClosureTables_n5 ClosureTables_n6 rfl rfl rfl ?_
  refine ws_region rfl ?_
  refine wlm 0 1 rfl rfl rfl rfl rfl rfl rfl ?_
  refine wlm 1 2 rfl rfl rfl rfl rfl rfl rfl ?_
  refine wlo 2 3 rfl rfl rfl (wo_cq rfl rfl rfl rfl rfl rfl rfl cf27 S2 (WordsMay_q n l [] (hl.mono (Hp.le_un _ _)) RdA.nil_ ((by simp only [List.length_nil]; omega)) S2.lend) ?_)
  rintro _ w4 S4 rfl; clear S2
  refine wla 3 4 rfl rfl rfl rfl rfl rfl rfl ?_
  refine wl_end rfl ?_
  refine nm_sub [(0, _), (1, _), (5, _), (6, _), (7, _)] ⟨rfl, rfl, rfl, rfl, rfl, trivial⟩ ?_
  refine nm_thn ?_
  refine ws_seqN ClosureTables_n7 ClosureTables_n8 rfl rfl rfl ?_
  refine ws_seqN ClosureTables_n9 ClosureTables_n10 rfl rfl rfl ?_
  refine ws_region rfl ?_
  refine wlm 0 1 rfl rfl rfl rfl rfl rfl rfl ?_
  refine wlo 1 2 rfl rfl rfl (wo_run rfl rfl (run_neq rfl rfl rfl) ?_)
  refine wl_end rfl ?_
  refine nm_sub [(0, _), (1, _), (5, _), (6, _), (7, _), (22, _)] ⟨rfl, rfl, rfl, rfl, rfl, rfl, trivial⟩ ?_
  refine nm_thn ?_
  refine ws_condN ClosureTables_n11 ClosureTables_n12 rfl rfl rfl rfl (fun hb22 => ?_) (fun hb22 => ?_)
  ·replace hb22 := of_decide_eq_true hb22
   exfalso; first | omega | (simp_all; done) | contradiction
  ·replace hb22 := of_decide_eq_false hb22
   refine ws_skip rfl ?_
   refine nm_sub [(0, _), (1, _), (5, _), (6, _)] ⟨rfl, rfl, rfl, rfl, trivial⟩ ?_
   refine nm_thn ?_
   refine ws_seqN ClosureTables_n15 ClosureTables_n16 rfl rfl rfl ?_
   refine ws_region rfl ?_
   refine wlm 0 1 rfl rfl rfl rfl rfl rfl rfl ?_
   refine wlm 1 2 rfl rfl rfl rfl rfl rfl rfl ?_
   refine wlo 2 3 rfl rfl rfl (wo_ct rfl rfl rfl rfl rfl rfl rfl cf28 S4 (BurauOf_t n l (hl.mono (Hp.le_un _ _)) (hok) S4.lend) ?_)
   intro vw5 w5 M3 hle3 S5 hRw5; clear S4
   replace hl := hl.mono hle3
   replace hr1 := hr1.mono hle3
   replace hr2 := hr2.mono hle3
   replace hd1 := hd1.mono hle3
   replace h31 := h31.mono hle3
   obtain ⟨A3, c3, vs2, ss2, om2, rfl, hr3, hd2, h32, hbk2, hbo2⟩ := hRw5
   have hlhd2 := hd2.1
   have hlh32 := h32.1
   refine wla 3 4 rfl rfl rfl rfl rfl rfl rfl ?_
   refine wl_end rfl ?_
   refine nm_sub [(0, _), (5, _), (6, _), (8, _)] ⟨rfl, rfl, rfl, rfl, trivial⟩ ?_
   refine nm_thn ?_
   refine ws_seqN ClosureTables_n17 ClosureTables_n18 rfl rfl rfl ?_
   refine ws_seqN ClosureTables_n19 ClosureTables_n20 rfl rfl rfl ?_
   refine ws_region rfl ?_
   refine wlm 0 1 rfl rfl rfl rfl rfl rfl rfl ?_
   refine wlo 1 2 rfl rfl rfl (wo_run rfl rfl (run_neq rfl rfl rfl) ?_)
   refine wlm 2 3 rfl rfl rfl rfl rfl rfl rfl ?_
   refine wl_split (t := 36) rfl (fun hg36 => ?_) (fun hg36 => ?_)
   ·replace hg36 := of_decide_eq_true hg36
    refine wl_no (k := 3) (k' := 4) (d := 37) rfl rfl ⟨_, _, _, rfl, rfl, rfl, rfl⟩ rfl rfl ?_
    refine wl_no (k := 4) (k' := 5) (d := 38) rfl rfl ⟨_, _, _, rfl, rfl, rfl, rfl⟩ rfl rfl ?_
    refine wl_no (k := 5) (k' := 6) (d := 39) rfl rfl ⟨_, _, _, rfl, rfl, rfl, rfl⟩ rfl rfl ?_
    refine wl_no (k := 6) (k' := 7) (d := 40) rfl rfl ⟨_, _, _, rfl, rfl, rfl, rfl⟩ rfl rfl ?_
    refine wlo 7 8 rfl rfl rfl (wo_run rfl rfl (run_pickT rfl rfl rfl) ?_)
    refine wl_end rfl ?_
    refine nm_sub [(0, _), (5, _), (8, _), (41, _)] ⟨rfl, rfl, rfl, rfl, trivial⟩ ?_
    refine nm_thn ?_
    refine ws_condTN ClosureTables_n21 rfl rfl rfl ?_
    refine ws_seqN ClosureTables_n23 ClosureTables_n24 rfl rfl rfl ?_
    refine ws_region rfl ?_
    refine wla 0 1 rfl rfl rfl rfl rfl rfl rfl ?_
    refine wl_end rfl ?_
    refine nm_sub [(4, _)] ⟨rfl, trivial⟩ ?_
    refine nm_thn ?_
    refine ws_ret hC [_] rfl rfl ⟨rfl, trivial⟩ ?_
    refine ⟨_, rfl, _, (hle1.trans hle2).trans hle3, (S5.pick [] [] (by decide) trivial), ?_⟩
    show Value.bool _ = _
    refine congrArg Value.bool ?_
    first | rfl | (rw [decide_eq_true_iff]; omega) | (simp_all; done)
   ·replace hg36 := of_decide_eq_false hg36
    refine wl_opG (k := 3) (k' := 4) rfl rfl ⟨_, _, _, rfl, rfl, rfl, rfl⟩ rfl (wo_run rfl rfl (run_move rfl rfl) ?_)
    refine wl_opG (k := 4) (k' := 5) rfl rfl ⟨_, _, _, rfl, rfl, rfl, rfl⟩ rfl (wo_run rfl rfl (run_len rfl rfl rfl rfl rfl rfl Try.underlying37) ?_)
    refine wl_opG (k := 5) (k' := 6) rfl rfl ⟨_, _, _, rfl, rfl, rfl, rfl⟩ rfl (wo_run rfl rfl (run_move rfl rfl) ?_)
    refine wl_opG (k := 6) (k' := 7) rfl rfl ⟨_, _, _, rfl, rfl, rfl, rfl⟩ rfl (wo_run rfl rfl (run_neq rfl rfl rfl) ?_)
    refine wlo 7 8 rfl rfl rfl (wo_run rfl rfl (run_pickF rfl rfl rfl) ?_)
    refine wl_end rfl ?_
    refine nm_sub [(0, _), (5, _), (8, _), (41, _)] ⟨rfl, rfl, rfl, rfl, trivial⟩ ?_
    refine nm_thn ?_
    refine ws_condN ClosureTables_n21 ClosureTables_n22 rfl rfl rfl rfl (fun hb41 => ?_) (fun hb41 => ?_)
    ·replace hb41 := of_decide_eq_true hb41
     exfalso; first | omega | (simp_all; done) | contradiction
    ·replace hb41 := of_decide_eq_false hb41
     refine ws_skip rfl ?_
     refine nm_sub [(0, _), (5, _), (8, _)] ⟨rfl, rfl, rfl, trivial⟩ ?_
     refine nm_thn ?_
     refine ws_seqN ClosureTables_n25 ClosureTables_n26 rfl rfl rfl ?_
     refine ws_seqN ClosureTables_n27 ClosureTables_n28 rfl rfl rfl ?_
     refine ws_region rfl ?_
     refine wla 0 1 rfl rfl rfl rfl rfl rfl rfl ?_
     refine wl_end rfl ?_
     refine nm_thn ?_
     refine ws_blockN ClosureTables_n29 0 rfl rfl rfl ?_
     refine ws_loopE (fun mx_ ax_ wx_ => ∃ (r : Nat), mx_ = n.toNat - r ∧ Env 75 [(0, .int .i64 n), (5, .slice A2 vs1.length c2), (8, .slice A3 vs2.length c3), (9, .int .i64 (r : Int))] ax_ ∧ SH wx_ M3 X [] ∧ r ≤ n.toNat) rfl ?_ ?_
     ·intro ax_ hax_
      refine ⟨_, ⟨0, rfl, hax_.sub ⟨rfl, rfl, rfl, rfl, trivial⟩, S5.pick [] [] (by decide) trivial, ?hq1f0⟩⟩
      case hq1f0 => omega
     ·rintro m1 a1 w6 ⟨r, rfl, he1, S6, hr⟩
      clear S5
      refine ws_in he1 (c := ClosureTables_n30) rfl ?_
      clear he1 a1
      refine ws_seqN ClosureTables_n31 ClosureTables_n32 rfl rfl rfl ?_
      refine ws_seqN ClosureTables_n33 ClosureTables_n34 rfl rfl rfl ?_
      refine ws_region rfl ?_
      refine wlm 0 1 rfl rfl rfl rfl rfl rfl rfl ?_
      refine wlm 1 2 rfl rfl rfl rfl rfl rfl rfl ?_
      refine wlo 2 3 rfl rfl rfl (wo_run rfl rfl (run_lss rfl rfl rfl) ?_)
      refine wl_end rfl ?_
      refine nm_sub [(0, _), (5, _), (8, _), (9, _), (44, _)] ⟨rfl, rfl, rfl, rfl, rfl, trivial⟩ ?_
      refine nm_thn ?_
      refine ws_condN ClosureTables_n35 ClosureTables_n36 rfl rfl rfl rfl (fun hb44 => ?_) (fun hb44 => ?_)
      ·replace hb44 := of_decide_eq_true hb44
       have hq1 := hbo1 r (by omega)
       have hq2 := hbo2 r (by omega)
       have hqa := hq1.1
       have hqb := hq2.1
       refine ws_skip rfl ?_
       refine nm_sub [(0, _), (5, _), (8, _), (9, _)] ⟨rfl, rfl, rfl, rfl, trivial⟩ ?_
       refine nm_thn ?_
       refine ws_seqN ClosureTables_n37 ClosureTables_n38 rfl rfl rfl ?_
       refine ws_blockN ClosureTables_n39 1 rfl rfl rfl ?_
       refine ws_seqN ClosureTables_n40 ClosureTables_n41 rfl rfl rfl ?_
       refine ws_seqN ClosureTables_n42 ClosureTables_n43 rfl rfl rfl ?_
       refine ws_region rfl ?_
       refine wlm 0 1 rfl rfl rfl rfl rfl rfl rfl ?_
       refine wlm 1 2 rfl rfl rfl rfl rfl rfl rfl ?_
       refine wlo 2 3 rfl rfl rfl (wo_run rfl rfl (run_indexM (C := (cdV 43)) r rfl rfl rfl sl37 (by first | rfl | omega) hr2 (by first | omega | (simp only [lens]; omega))) ?_)
       obtain ⟨hn1, hr4⟩ := hd1.2 r (by first | omega | (simp only [lens]; omega))
       have rmhr4 : (ga ss1 r).length * 24 ≤ 140737488355328 := hr4.room
       have hW1 := h31.2 r (by have := h31.1; have := hd1.1; first | omega | (simp_all; omega))
       have hW1l := hW1.1
       refine wlo 3 4 rfl rfl rfl (wo_run rfl rfl (run_load1 rfl rfl Try.underlying43 rfl (hr2.cell S6.m (i := r) (by first | omega | (simp only [lens]; omega)) 0 rfl (congrArg (fun n => some (Value.slice _ n _)) hn1))) ?_)
       refine wlo 4 5 rfl rfl rfl (wo_run rfl rfl (run_len rfl rfl rfl rfl rfl rfl Try.underlying43) ?_)
       refine wlm 5 6 rfl rfl rfl rfl rfl rfl rfl ?_
       refine wlo 6 7 rfl rfl rfl (wo_run rfl rfl (run_neq rfl rfl rfl) ?_)
       refine wl_end rfl ?_
       refine nm_sub [(0, _), (5, _), (8, _), (9, _), (53, _)] ⟨rfl, rfl, rfl, rfl, rfl, trivial⟩ ?_
       refine nm_thn ?_
       refine ws_condN ClosureTables_n44 ClosureTables_n45 rfl rfl rfl rfl (fun hb53 => ?_) (fun hb53 => ?_)
       ·replace hb53 := of_decide_eq_true hb53
        exfalso; first | omega | (simp_all; done) | contradiction
       ·replace hb53 := of_decide_eq_false hb53
        refine ws_skip rfl ?_
        refine nm_sub [(0, _), (5, _), (8, _), (9, _)] ⟨rfl, rfl, rfl, rfl, trivial⟩ ?_
        refine nm_thn ?_
        refine ws_seqN ClosureTables_n46 ClosureTables_n47 rfl rfl rfl ?_
        refine ws_region rfl ?_
        refine wla 0 1 rfl rfl rfl rfl rfl rfl rfl ?_
        refine wl_end rfl ?_
        refine nm_thn ?_
        refine ws_blockN ClosureTables_n48 2 rfl rfl rfl ?_
        refine ws_loopE (fun mx_ ax_ wx_ => ∃ (k : Nat), mx_ = n.toNat - k ∧ Env 75 [(0, .int .i64 n), (5, .slice A2 vs1.length c2), (8, .slice A3 vs2.length c3), (9, .int .i64 (r : Int)), (10, .int .i64 (k : Int))] ax_ ∧ SH wx_ M3 X [] ∧ k ≤ n.toNat) rfl ?_ ?_
        ·intro ax_ hax_
         refine ⟨_, ⟨0, rfl, hax_.sub ⟨rfl, rfl, rfl, rfl, rfl, trivial⟩, S6.pick [] [] (by decide) trivial, ?hq2f0⟩⟩
         case hq2f0 => omega
        ·rintro m2 a2 w7 ⟨k, rfl, he2, S7, hk⟩
         clear S6
         refine ws_in he2 (c := ClosureTables_n49) rfl ?_
         clear he2 a2
         refine ws_seqN ClosureTables_n50 ClosureTables_n51 rfl rfl rfl ?_
         refine ws_seqN ClosureTables_n52 ClosureTables_n53 rfl rfl rfl ?_
         refine ws_region rfl ?_
         refine wlm 0 1 rfl rfl rfl rfl rfl rfl rfl ?_
         refine wlm 1 2 rfl rfl rfl rfl rfl rfl rfl ?_
         refine wlo 2 3 rfl rfl rfl (wo_run rfl rfl (run_lss rfl rfl rfl) ?_)
         refine wl_end rfl ?_
         refine nm_sub [(0, _), (5, _), (8, _), (9, _), (10, _), (56, _)] ⟨rfl, rfl, rfl, rfl, rfl, rfl, trivial⟩ ?_
         refine nm_thn ?_
         refine ws_condN ClosureTables_n54 ClosureTables_n55 rfl rfl rfl rfl (fun hb56 => ?_) (fun hb56 => ?_)
         ·replace hb56 := of_decide_eq_true hb56
          refine ws_skip rfl ?_
          refine nm_sub [(0, _), (5, _), (8, _), (9, _), (10, _)] ⟨rfl, rfl, rfl, rfl, rfl, trivial⟩ ?_
          refine nm_thn ?_
          refine ws_seqN ClosureTables_n56 ClosureTables_n57 rfl rfl rfl ?_
          refine ws_blockN ClosureTables_n58 3 rfl rfl rfl ?_
          refine ws_seqN ClosureTables_n59 ClosureTables_n60 rfl rfl rfl ?_
          refine ws_draw rfl (by kernel_rfl) S7 16 rfl ?_
          clear S7
          refine wa_takeP (i := 0) (d := 59) 15 rfl (by kernel_rfl) (by kernel_rfl) (by kernel_rfl) rfl rfl rfl (fun w8 => run_move rfl rfl) ?_
          refine wa_takeP (i := 1) (d := 60) 14 rfl (by kernel_rfl) (by kernel_rfl) (by kernel_rfl) rfl rfl rfl (fun w9 => run_move rfl rfl) ?_
          refine wa_take (i := 2) (d := 61) 13 rfl (by kernel_rfl) (by kernel_rfl) (by kernel_rfl) rfl rfl rfl (fun M6 N3 w10 hle8 S10 => .inl (run_indexM (C := (cdV 43)) r rfl rfl rfl sl37 (by first | rfl | omega) (hr2.mono hle8) (by first | omega | (simp only [lens]; omega)))) ?_
          obtain ⟨hn2, hr5⟩ := hd1.2 r (by first | omega | (simp only [lens]; omega))
          have rmhr5 : (ga ss1 r).length * 24 ≤ 140737488355328 := hr5.room
          have hW2 := h31.2 r (by have := h31.1; have := hd1.1; first | omega | (simp_all; omega))
          have hW2l := hW2.1
          refine wa_take (i := 3) (d := 62) 12 rfl (by kernel_rfl) (by kernel_rfl) (by kernel_rfl) rfl rfl rfl (fun M7 N4 w11 hle9 S11 => .inl (run_load1 rfl rfl Try.underlying43 rfl ((hr2.mono hle9).cell S11.m (i := r) (by first | omega | (simp only [lens]; omega)) 0 rfl (congrArg (fun n => some (Value.slice _ n _)) hn2)))) ?_
          refine wa_takeP (i := 4) (d := 63) 11 rfl (by kernel_rfl) (by kernel_rfl) (by kernel_rfl) rfl rfl rfl (fun w12 => run_move rfl rfl) ?_
          refine wa_take (i := 5) (d := 64) 10 rfl (by kernel_rfl) (by kernel_rfl) (by kernel_rfl) rfl rfl rfl (fun M9 N6 w13 hle11 S13 => .inl (run_indexM (C := (cdV 22)) k rfl rfl rfl sl43 (by first | rfl | omega) (hr5.mono hle11) (by first | omega | (simp only [lens]; omega)))) ?_
          obtain ⟨hn3, hr6⟩ := hW2.2 k (by first | omega | (simp only [lens]; omega))
          have rmhr6 : (ga (ga om1 r) k).length * 16 ≤ 140737488355328 := hr6.room
          refine wa_take (i := 6) (d := 65) 9 rfl (by kernel_rfl) (by kernel_rfl) (by kernel_rfl) rfl rfl rfl (fun M10 N7 w14 hle12 S14 => .inl (run_load1 rfl rfl Try.underlying22 rfl ((hr5.mono hle12).cell S14.m (i := k) (by first | omega | (simp only [lens]; omega)) 0 rfl (congrArg (fun n => some (Value.slice _ n _)) hn3)))) ?_
          refine wa_takeP (i := 7) (d := 66) 8 rfl (by kernel_rfl) (by kernel_rfl) (by kernel_rfl) rfl rfl rfl (fun w15 => run_move rfl rfl) ?_
          refine wa_takeP (i := 8) (d := 67) 7 rfl (by kernel_rfl) (by kernel_rfl) (by kernel_rfl) rfl rfl rfl (fun w16 => run_move rfl rfl) ?_
          refine wa_take (i := 9) (d := 68) 6 rfl (by kernel_rfl) (by kernel_rfl) (by kernel_rfl) rfl rfl rfl (fun M13 N10 w17 hle15 S17 => .inl (run_indexM (C := (cdV 43)) r rfl rfl rfl sl37 (by first | rfl | omega) (hr3.mono hle15) (by first | omega | (simp only [lens]; omega)))) ?_
          obtain ⟨hn4, hr7⟩ := hd2.2 r (by first | omega | (simp only [lens]; omega))
          have rmhr7 : (ga ss2 r).length * 24 ≤ 140737488355328 := hr7.room
          have hW3 := h32.2 r (by have := h32.1; have := hd2.1; first | omega | (simp_all; omega))
          have hW3l := hW3.1
          refine wa_take (i := 10) (d := 69) 5 rfl (by kernel_rfl) (by kernel_rfl) (by kernel_rfl) rfl rfl rfl (fun M14 N11 w18 hle16 S18 => .inl (run_load1 rfl rfl Try.underlying43 rfl ((hr3.mono hle16).cell S18.m (i := r) (by first | omega | (simp only [lens]; omega)) 0 rfl (congrArg (fun n => some (Value.slice _ n _)) hn4)))) ?_
          refine wa_takeP (i := 11) (d := 70) 4 rfl (by kernel_rfl) (by kernel_rfl) (by kernel_rfl) rfl rfl rfl (fun w19 => run_move rfl rfl) ?_
          refine wa_take (i := 12) (d := 71) 3 rfl (by kernel_rfl) (by kernel_rfl) (by kernel_rfl) rfl rfl rfl (fun M16 N13 w20 hle18 S20 => .inl (run_indexM (C := (cdV 22)) k rfl rfl rfl sl43 (by first | rfl | omega) (hr7.mono hle18) (by first | omega | (simp only [lens]; omega)))) ?_
          obtain ⟨hn5, hr8⟩ := hW3.2 k (by first | omega | (simp only [lens]; omega))
          have rmhr8 : (ga (ga om2 r) k).length * 16 ≤ 140737488355328 := hr8.room
          refine wa_take (i := 13) (d := 72) 2 rfl (by kernel_rfl) (by kernel_rfl) (by kernel_rfl) rfl rfl rfl (fun M17 N14 w21 hle19 S21 => .inl (run_load1 rfl rfl Try.underlying22 rfl ((hr7.mono hle19).cell S21.m (i := k) (by first | omega | (simp only [lens]; omega)) 0 rfl (congrArg (fun n => some (Value.slice _ n _)) hn5)))) ?_
          refine wa_take (i := 14) (d := 73) 1 rfl (by kernel_rfl) (by kernel_rfl) (by kernel_rfl) rfl rfl rfl (fun M18 N15 w22 hle20 S22 => yield_cq rfl rfl rfl rfl rfl cf16 S22 (sameTerms_q (ga (ga om1 r) k) (ga (ga om2 r) k) ((hr6.mono hle20).mono (Hp.le_un _ _)) ((hr8.mono hle20).mono (Hp.le_un _ _)) ((can_ext (hq1.2 k (by omega)).1 (hq2.2 k (by omega)).1 (by rw [(hq1.2 k (by omega)).2, (hq2.2 k (by omega)).2]))) S22.lend)) ?_
          refine wa_takeP (i := 15) (d := 74) 0 rfl (by kernel_rfl) (by kernel_rfl) (by kernel_rfl) rfl rfl rfl (fun w23 => run_not rfl rfl) ?_
          refine wa_end (by kernel_rfl) (fun w24 S24 => ?_)
          refine nm_sub [(0, _), (5, _), (8, _), (9, _), (10, _), (74, _)] ⟨rfl, rfl, rfl, rfl, rfl, rfl, trivial⟩ ?_
          refine nm_thn ?_
          refine ws_condFN ClosureTables_n62 rfl rfl rfl ?_
          refine ws_skip rfl ?_
          refine nm_blk ?_
          refine nm_sub [(0, _), (5, _), (8, _), (9, _), (10, _)] ⟨rfl, rfl, rfl, rfl, rfl, trivial⟩ ?_
          refine nm_thn ?_
          refine ws_region rfl ?_
          refine wlm 0 1 rfl rfl rfl rfl rfl rfl rfl ?_
          refine wlo 1 2 rfl rfl rfl (wo_run rfl rfl (run_add rfl rfl rfl (by first | omega | (simp only [lens]; omega))) ?_)
          refine wla 2 3 rfl rfl rfl rfl rfl rfl rfl ?_
          refine wl_end rfl ?_
          refine nm_lp ?_
          intro ax_ hax_
          refine ⟨_, ?hq3m, ⟨k + 1, rfl, hax_.sub ⟨rfl, rfl, rfl, rfl, rfl, trivial⟩, S24.pick [] [] (by decide) trivial, ?hq3f0⟩⟩
          case hq3f0 => omega
          case hq3m => omega
         ·replace hb56 := of_decide_eq_false hb56
          refine ws_exit rfl rfl ?_
          refine nm_blk ?_
          refine nm_sub [(0, _), (5, _), (8, _), (9, _)] ⟨rfl, rfl, rfl, rfl, trivial⟩ ?_
          refine nm_thn ?_
          refine ws_region rfl ?_
          refine wlm 0 1 rfl rfl rfl rfl rfl rfl rfl ?_
          refine wlo 1 2 rfl rfl rfl (wo_run rfl rfl (run_add rfl rfl rfl (by first | omega | (simp only [lens]; omega))) ?_)
          refine wla 2 3 rfl rfl rfl rfl rfl rfl rfl ?_
          refine wl_end rfl ?_
          refine nm_lp ?_
          intro ax_ hax_
          refine ⟨_, ?hq4m, ⟨r + 1, rfl, hax_.sub ⟨rfl, rfl, rfl, rfl, trivial⟩, S7.pick [] [] (by decide) trivial, ?hq4f0⟩⟩
          case hq4f0 => omega
          case hq4m => omega
      ·replace hb44 := of_decide_eq_false hb44
       refine ws_exit rfl rfl ?_
       refine nm_sub [] trivial ?_
       refine nm_thn ?_
       refine ws_seqN ClosureTables_n63 ClosureTables_n64 rfl rfl rfl ?_
       refine ws_region rfl ?_
       refine wla 0 1 rfl rfl rfl rfl rfl rfl rfl ?_
       refine wl_end rfl ?_
       refine nm_thn ?_
       refine ws_ret hC [_] rfl rfl ⟨rfl, trivial⟩ ?_
       refine ⟨_, rfl, _, (hle1.trans hle2).trans hle3, (S6.pick [] [] (by decide) trivial), ?_⟩
       show Value.bool _ = _
       refine congrArg Value.bool ?_
       first | rfl | (rw [decide_eq_true_iff]; omega) | (simp_all; done)
end Go.Proofs.Ytkcighnochjlgaa
namespace Go.Proofs.Ytkcighnochjlgaa
open Go.ChangeShapes Go.WideShapes Go.ChangeAt Go.RowKit Go.Joins Go.Deep
theorem weightsAll_mem {H : Type} {P : Program} {e : TypeId} {d : DataW H} {n : Nat} : ∀ {ds : List (DataW H)}, d ∈ ds → n ∈ d.weights P e → n ∈ DataW.weightsAll P e ds
  | d0 :: ds, hd, hn => by
    simp only [DataW.weightsAll, List.mem_append]
    rcases List.mem_cons.1 hd with rfl | hd
    · exact .inl hn
    · exact .inr (weightsAll_mem hd hn)
def Light {H : Type} (P : Program) (T : TypeId) (d : DataW H) : Prop := ∀ n ∈ d.weights P T, n ≤ reachBytes
/-- What is read of type T is one x of C, of which ok is true. -/
def Rdr {H : Type} (P : Program) (w : World) (enc : TypeId × Value → H) (T : TypeId) {α : Type} (C : Cd α) (ok : α → Prop) : Prop :=
  ∀ n cs d pl, DataW.trod enc P w 0 (fun _ => true) true n T cs = some (d, pl) → Light P T d → ∃ x, (∀ j u, j < C.k → (C.f x)[j]? = some u → cs[j]? = some u) ∧ ok x
def wfI (x : Int) : Prop := -9223372036854775808 ≤ x ∧ x ≤ 9223372036854775807
theorem wfI_of {x : Int} (h : (Lit.int .i64 x).wf = true) : wfI x := by
  simpa [Lit.wf, IntKind.min, IntKind.max, IntKind.signed, IntKind.bits, wfI] using h
def SlOk {α : Type} (C : Cd α) (w : World) (ok : α → Prop) (s : SlV) : Prop := ∃ ys : List α, s.n = ys.length ∧ RdA C (hp w) s.A s.c ys ∧ ∀ y ∈ ys, ok y
section
variable {H : Type} {enc : TypeId × Value → H} {P : Program} {w : World} {T : TypeId}
theorem rdr_int (hu : P.underlying T = some (.int .i64)) : Rdr P w enc T cdInt wfI := fun n cs d pl h _ => by
  obtain ⟨a, rfl, _, hw⟩ := DataW.trod_int hu h
  exact ⟨a, fun j u _ hu => hu, wfI_of hw⟩
theorem rdr_slice {α : Type} [Inhabited α] {C : Cd α} {ok : α → Prop} (hu : P.underlying T = some (.slice C.E)) (hk : P.cellsOf C.E = C.k) (hb : P.bytesOf C.E = C.u8) (hk0 : 0 < C.k) (hr : Rdr P w enc C.E C ok) : Rdr P w enc T (cdV T) (SlOk C w ok) := fun n cs d pl h hl => by
  rcases open_slice hu h with ⟨rfl, hx⟩ | ⟨a, len, cap, m, n', D, Pl, rfl, _, hle, hm, hmm, hx, hi⟩
  · exact ⟨⟨none, 0, 0⟩, fun j u _ hu => hu, [], rfl, RdA.nil_, fun y hy => by cases hy⟩
  · simp only [if_true] at hmm
    subst hmm
    simp only [Prod.mk.injEq] at hx
    obtain ⟨rfl, _⟩ := hx
    have hwt : ∀ n ∈ (len + (m - len)) * P.bytesOf C.E :: (DataW.weightsAll P C.E ((List.range len).map D) ++ DataW.weightsAll P C.E ((List.range (m - len)).map fun j => D (len + j))), n ≤ reachBytes := by
      have := hl
      unfold Light at this
      simp only [DataW.weights, hu, List.length_map, List.length_range] at this
      exact this
    have hsz := hwt _ (List.mem_cons_self ..)
    rw [hb] at hsz
    simp only [reachBytes] at hsz
    have hL : len * C.u8 ≤ 140737488355328 := Nat.le_trans (Nat.mul_le_mul_right _ (show len ≤ len + (m - len) by omega)) (by omega)
    obtain ⟨F, hF⟩ := choose_lt (α := α) (n := len) (p := fun i x => (∀ j u, j < C.k → (C.f x)[j]? = some u → w.cell? (a.add (i * C.k + j)) = some u) ∧ ok x) (fun i hil => by
      obtain ⟨cs', hc, ht⟩ := hi i (by omega)
      rw [hk] at hc
      obtain ⟨x, hx, hok⟩ := hr n' cs' (D i) (Pl i) ht (fun q hq => hwt q (List.mem_cons_of_mem _ (List.mem_append_left _ (weightsAll_mem (List.mem_map.2 ⟨i, List.mem_range.2 hil, rfl⟩) hq))))
      obtain ⟨_, hcl, hat⟩ := World.cells?_some hc
      refine ⟨x, fun j u hj hu => ?_, hok⟩
      rw [← Go.Deep.add_add, hat j hj]
      exact hx j u hj hu)
    have hlen : ((List.range len).map F).length = len := by simp
    refine ⟨⟨some a, len, m⟩, fun j u _ hu => hu, (List.range len).map F, by rw [hlen], ⟨by rw [hlen]; exact hle, by rw [hlen]; exact hL, fun h0 => ?_⟩, fun y hy => ?_⟩
    · rw [hlen] at h0
      have hcell : ∀ j u, (((List.range len).map F).flatMap C.f)[j]? = some u → w.cell? (a.add j) = some u := fun j u hju => by
        have hjl : j < len * C.k := by
          have := (List.getElem?_eq_some_iff.1 hju).1
          rwa [flat_len C.hf, hlen] at this
        have h1 : j / C.k < len := (Nat.div_lt_iff_lt_mul hk0).2 hjl
        have h2 : j % C.k < C.k := Nat.mod_lt _ hk0
        have em : j / C.k * C.k + j % C.k = j := by rw [Nat.mul_comm]; exact Nat.div_add_mod j C.k
        have g1 := flat_get C.hf (xs := (List.range len).map F) (i := j / C.k) (by rw [hlen]; exact h1) h2
        rw [em, hju] at g1
        have := (hF (j / C.k) h1).1 (j % C.k) u h2 (by rw [g1]; simp)
        rwa [em] at this
      have hlen0 : 0 < (((List.range len).map F).flatMap C.f).length := by rw [flat_len C.hf, hlen]; exact Nat.mul_pos h0 hk0
      have hc0 := hcell 0 _ (List.getElem?_eq_getElem hlen0)
      obtain ⟨b, off, spot⟩ := a
      have hspot : spot = none := by simpa [Addr.add] using World.cell?_spot hc0
      subst hspot
      refine ⟨rfl, ?_⟩
      have hadd : ∀ j, (⟨b, off, none⟩ : Addr).add j = ⟨b, off + j, none⟩ := fun j => by
        unfold Addr.add
        split
        · rename_i e; rw [e]; rfl
        · rfl
      rw [hadd] at hc0
      unfold World.cell? at hc0
      split at hc0
      · rename_i cs T' fz hb'
        refine ⟨cs, T', fz, hb', fun j u hju => ?_⟩
        have := hcell j u hju
        rw [hadd, cell_of_row w b _ cs T' fz hb'] at this
        exact this
      · cases hc0
    · obtain ⟨i, hi', rfl⟩ := List.mem_map.1 hy
      exact (hF i (List.mem_range.1 hi')).2
theorem open_sl {α : Type} [Inhabited α] {C : Cd α} {ok : α → Prop} {v : Value} {d : DataW H} {p : List MemPlace} (hu : P.underlying T = some (.slice C.E)) (hk : P.cellsOf C.E = C.k) (hb : P.bytesOf C.E = C.u8) (hk0 : 0 < C.k) (hr : Rdr P w enc C.E C ok)
    {b0 : Nat} (hv : Value.okWide P w .any b0 T v) (h : DataW.Trod enc P w 0 (fun _ => true) true T v d p) {ts : List TypeId} {ds : List (DataW H)} (hsz : (DataW.weightsEach P ts ds).all (· ≤ reachBytes) = true) {j : Nat} (hj : ts[j]? = some T) (hd : ds[j]? = some d) :
    ∃ A c xs, v = .slice A xs.length c ∧ RdA C (hp w) A c xs ∧ ∀ x ∈ xs, ok x := by
  obtain ⟨a0, len, cap, rfl⟩ := okWide_slice hu hv
  obtain ⟨fuel, hf⟩ := h
  have hl : Light P T d := fun n hn => by simpa using List.all_eq_true.1 hsz n (DataW.weights_mem_each hj hd n hn)
  obtain ⟨s, hs, ys, hn, hr, hy⟩ := rdr_slice hu hk hb hk0 hr fuel _ d p hf hl
  have := hs 0 _ Nat.one_pos rfl
  simp only [Value.cells] at this
  have e : (Value.slice a0 len cap) = .slice s.A s.n s.c := by simpa using this
  exact ⟨s.A, s.c, ys, by rw [e, hn], hr, hy⟩
end
end Go.Proofs.Ytkcighnochjlgaa
namespace Go.Proofs.Ytkcighnochjlgaa
open Go.ChangeShapes Go.WideShapes Go.ChangeAt Go.RowKit
theorem lawClosureTables (x0 : Int) (x1 : List Int) {A1 : Option Addr} {c1 : Nat} (W : World) (h1 : RdA cdInt (hp W) A1 c1 x1) :
    Calls Try.prog 5 #[.int .i64 x0, .slice A1 x1.length c1] W fun e W' => e = .returned (.bool true) ∧ Below W.heap.size W W' := by
  exact law_of_ct (ClosureTables_t x0 x1 h1 (SH.start W))
set_option maxRecDepth 100000 in
theorem closureTables_lifted (os : Os) (started : os.Started) (H : Type) (enc : TypeId × Value → H) :
    ReturnsInHanded {} Try.checked os 5 .any (Rows.closureTablesSpec.pre6 enc Try.prog Try.f5 Rows.closureTablesRow.domain false) (Rows.closureTablesSpec.post enc Try.prog Try.f5 false true false false) := by
  refine law_lift (C := Try.checked) (tb := 4) (by kernel_rfl) started (by kernel_rfl) Try.func5
    (ChangeSpec.witness6 (enc := enc) (C := Try.checked) false ⟨#[], #[.int .i64 0, .slice none 0 0], []⟩ 8 (by kernel_rfl) (by kernel_rfl) (by kernel_rfl) (by kernel_rfl))
    rfl (by kernel_rfl) (by kernel_rfl) rfl Try.underlying4 ?_ ?_
  · intro ds hds
    match ds, hds with
    | [d0, d1], _ => rfl
  · intro W base args ds p hval hA _ hlt hsz
    rw [Try.params5] at hA hval hsz
    obtain ⟨v0, vs0, d0, ds0, p0, q0, hargs, rfl, rfl, h0, r0⟩ := trodAll_cons hA
    obtain ⟨v1, vs1, d1, ds1, p1, q1, rfl, rfl, rfl, h1, r1⟩ := trodAll_cons r0
    obtain ⟨rfl, rfl, rfl⟩ := trodAll_nil r1
    obtain rfl : args = #[v0, v1] := by cases args; simp_all
    obtain ⟨a0, rfl, rfl, rfl, w0⟩ := open_int Try.underlying3 (hval 0 3 v0 rfl rfl) h0
    obtain ⟨A1, c1, xs1, rfl, g1, _⟩ := open_sl (C := cdInt) Try.underlying36 (by kernel_rfl) (by kernel_rfl) (by decide) (rdr_int Try.underlying3) (hval 1 36 v1 rfl rfl) h1 hsz (j := 1) rfl rfl
    exact lawClosureTables a0 xs1 W g1
theorem closureTables_holds : Rows.ClosureTablesSaid :=
  OpenClaim.holds_of_wide 5 Try.f5 rfl rfl rfl rfl rfl rfl rfl ⟨rfl, rfl, rfl, rfl, rfl⟩ rfl rfl rfl rfl rfl (by kernel_rfl) Try.func5 (by kernel_rfl)
    (of_decide_eq_true (by kernel_rfl)) (by unfold Func.isWrapper; first | (rw [if_pos (by decide +kernel)]; kernel_rfl) | (rw [if_neg (by decide +kernel)]; exact ⟨rfl, rfl⟩))
    (fun os started H enc _ => closureTables_lifted os started H enc)
#print axioms closureTables_holds
end Go.Proofs.Ytkcighnochjlgaa
