/- Part 7 of the proof of the law SignShades: the walks through its functions and the plain laws that they need. -/
import Derived.Test.YthppkofceancjaaShZ6
import Derived.Maps.RangeRun
set_option linter.unusedSimpArgs false
set_option linter.unusedVariables false
namespace Go.Proofs.Ythppkofceancjaa
open Go.ChangeShapes Go.WideShapes Go.ChangeAt Go.RowKit
/-- A table by its entries. -/
def tbl (m : Nat) (f : Nat → Nat → Int) : List (List Int) := (List.range m).map fun i => (List.range m).map fun j => f i j
theorem tbl_len (m : Nat) (f : Nat → Nat → Int) : (tbl m f).length = m := by simp [tbl]
theorem tbl_row {m : Nat} (f : Nat → Nat → Int) {i : Nat} (hi : i < m) : ga (tbl m f) i = (List.range m).map fun j => f i j := by
 rw [ga_eq (by rw [tbl_len]; exact hi)]; simp [tbl]
theorem tbl_rlen {m : Nat} (f : Nat → Nat → Int) {i : Nat} (hi : i < m) : (ga (tbl m f) i).length = m := by rw [tbl_row f hi]; simp
theorem tbl_at {m : Nat} (f : Nat → Nat → Int) {i j : Nat} (hi : i < m) (hj : j < m) : ga (ga (tbl m f) i) j = f i j := by
 rw [tbl_row f hi, ga_eq (by simpa using hj)]; simp
theorem tbl_ext {m : Nat} {t : List (List Int)} (f : Nat → Nat → Int) (h : t.length = m) (h1 : ∀ i, i < m → (ga t i).length = m) (h2 : ∀ i j, i < m → j < m → ga (ga t i) j = f i j) : t = tbl m f := by
 apply List.ext_getElem (by rw [h, tbl_len])
 intro i hi _
 have hi' : i < m := by omega
 rw [← ga_eq hi, ← ga_eq (by rw [tbl_len]; exact hi')]
 apply List.ext_getElem (by rw [h1 i hi', tbl_rlen f hi'])
 intro j hj _
 have hj' : j < m := by rw [← h1 i hi']; exact hj
 rw [← ga_eq hj, ← ga_eq (by rw [tbl_rlen f hi']; exact hj'), h2 i j hi' hj', tbl_at f hi' hj']
theorem tbl_set {m p q : Nat} (f f' : Nat → Nat → Int) (v : Int) (hp : p < m) (hq : q < m) (h : ∀ i j, i < m → j < m → f' i j = if i = p ∧ j = q then v else f i j) : (tbl m f).set p ((ga (tbl m f) p).set q v) = tbl m f' := by
 apply tbl_ext f' (by rw [List.length_set, tbl_len])
 ·intro i hi
  rw [ga_set _ _ _ _ (by rw [tbl_len]; exact hp)]
  split
  ·rw [List.length_set, tbl_rlen f hp]
  ·exact tbl_rlen f hi
 ·intro i j hi hj
  rw [ga_set _ _ _ _ (by rw [tbl_len]; exact hp), h i j hi hj]
  by_cases e : p = i
  ·subst e
   rw [if_pos rfl, ga_set _ _ _ _ (by rw [tbl_rlen f hp]; exact hq)]
   by_cases e2 : q = j
   ·subst e2; rw [if_pos rfl, if_pos ⟨rfl, rfl⟩]
   ·rw [if_neg e2, if_neg (fun hh => e2 hh.2.symm), tbl_at f hi hj]
  ·rw [if_neg e, if_neg (fun hh => e hh.1.symm), tbl_at f hi hj]
theorem cn_in {P : Nat → Bool} {N x : Nat} (hx : x < N) (h : P x = true) : cn P x + 1 ≤ cn P N := by
 induction N with
 | zero => omega
 | succ N ih =>
  rw [cn]
  by_cases e : x = N
  ·subst e; rw [if_pos h]; omega
  ·have := ih (by omega); omega
/-- Of a face of a shade: how many of that shade come before. -/
noncomputable def gnum (d : Dg) (s : Int) (i : Nat) : Nat := cn (fun y => decide (shv d y = s)) i
theorem gnum_le (d : Dg) (s : Int) (i : Nat) : gnum d s i ≤ i := cn_le _ _
theorem gnum_t {d : Dg} {s : Int} {i : Nat} (h : shv d i = s) : gnum d s (i + 1) = gnum d s i + 1 := by unfold gnum; rw [cn, if_pos (decide_eq_true h)]
theorem gnum_f {d : Dg} {s : Int} {i : Nat} (h : ¬ shv d i = s) : gnum d s (i + 1) = gnum d s i := by unfold gnum; rw [cn, if_neg (by simpa using h)]; rfl
theorem gnum_in {d : Dg} {s : Int} {x N : Nat} (hx : x < N) (h : shv d x = s) : gnum d s x < gnum d s N := cn_in hx (decide_eq_true h)
theorem gnum_inj {d : Dg} {s : Int} {x y : Nat} (hx : shv d x = s) (hy : shv d y = s) (h : gnum d s x = gnum d s y) : x = y := by
 rcases Nat.lt_trichotomy x y with e | e | e
 ·have := gnum_in e hx; omega
 ·exact e
 ·have := gnum_in e hy; omega
noncomputable def numP (d : Dg) (s : Int) : Nat → List Int
 | 0 => List.replicate (fcsC d).length 0
 | i + 1 => if shv d i = s then (numP d s i).set i (gnum d s i : Int) else numP d s i
theorem numP_len (d : Dg) (s : Int) (i : Nat) : (numP d s i).length = (fcsC d).length := by
 induction i with
 | zero => simp [numP]
 | succ i ih => rw [numP]; split <;> simp [ih]
theorem numP_ga {d : Dg} {s : Int} {i x : Nat} (hi : i ≤ (fcsC d).length) (hx : x < i) (h : shv d x = s) : ga (numP d s i) x = (gnum d s x : Int) := by
 induction i with
 | zero => omega
 | succ i ih =>
  rw [numP]
  by_cases e : x = i
  ·subst e
   rw [if_pos h, ga_set _ _ _ _ (by rw [numP_len]; omega), if_pos rfl]
  ·have := ih (by omega) (by omega)
   split
   ·rw [ga_set _ _ _ _ (by rw [numP_len]; omega), if_neg (fun e9 => e e9.symm)]; exact this
   ·exact this
noncomputable def gm (d : Dg) (s : Int) : Nat := gnum d s (fcsC d).length
noncomputable def gI (d : Dg) (s : Int) (c : Nat) : Nat := if shv d (fcJ d (4 * c + 0)) = s then gnum d s (fcJ d (4 * c + 0)) else gnum d s (fcJ d (4 * c + 1))
noncomputable def gJ (d : Dg) (s : Int) (c : Nat) : Nat := if shv d (fcJ d (4 * c + 0)) = s then gnum d s (fcJ d (4 * c + 2)) else gnum d s (fcJ d (4 * c + 3))
noncomputable def gW (d : Dg) (s : Int) (c : Nat) : Int := if shv d (fcJ d (4 * c + 0)) = s then -1 else 1
theorem shv_around {d : Dg} (h : OkS d) {c : Nat} (hc : c < d.crs.length) : shv d (fcJ d (4 * c + 1)) = 1 - shv d (fcJ d (4 * c + 0)) ∧ shv d (fcJ d (4 * c + 2)) = shv d (fcJ d (4 * c + 0)) ∧ shv d (fcJ d (4 * c + 3)) = 1 - shv d (fcJ d (4 * c + 0)) := by
 have h1 := shv_pr h (j := 4 * c + 1) (by omega)
 have h2 := shv_pr h (j := 4 * c + 2) (by omega)
 have h3 := shv_pr h (j := 4 * c + 3) (by omega)
 rw [show prJ (4 * c + 1) = 4 * c + 0 by unfold prJ; omega] at h1
 rw [show prJ (4 * c + 2) = 4 * c + 1 by unfold prJ; omega] at h2
 rw [show prJ (4 * c + 3) = 4 * c + 2 by unfold prJ; omega] at h3
 omega
/-- What is known of a crossing whose first face bears the shade; whose first face does not. -/
theorem g_yes {d : Dg} (h : OkS d) {s : Int} {c : Nat} (hc : c < d.crs.length) (hs : shv d (fcJ d (4 * c + 0)) = s) : gI d s c = gnum d s (fcJ d (4 * c + 0)) ∧ gJ d s c = gnum d s (fcJ d (4 * c + 2)) ∧ gW d s c = -1 ∧ shv d (fcJ d (4 * c + 2)) = s ∧ gI d s c < gm d s ∧ gJ d s c < gm d s := by
 have ha := shv_around h hc
 have e1 : gI d s c = gnum d s (fcJ d (4 * c + 0)) := by unfold gI; rw [if_pos hs]
 have e2 : gJ d s c = gnum d s (fcJ d (4 * c + 2)) := by unfold gJ; rw [if_pos hs]
 have e4 : shv d (fcJ d (4 * c + 2)) = s := by omega
 refine ⟨e1, e2, by unfold gW; rw [if_pos hs], e4, ?_, ?_⟩
 ·rw [e1]; exact gnum_in (fcJ_lt h (by omega)) hs
 ·rw [e2]; exact gnum_in (fcJ_lt h (by omega)) e4
theorem g_no {d : Dg} (h : OkS d) {s : Int} (h01 : s = 0 ∨ s = 1) {c : Nat} (hc : c < d.crs.length) (hs : ¬ shv d (fcJ d (4 * c + 0)) = s) : gI d s c = gnum d s (fcJ d (4 * c + 1)) ∧ gJ d s c = gnum d s (fcJ d (4 * c + 3)) ∧ gW d s c = 1 ∧ shv d (fcJ d (4 * c + 1)) = s ∧ shv d (fcJ d (4 * c + 3)) = s ∧ gI d s c < gm d s ∧ gJ d s c < gm d s := by
 have ha := shv_around h hc
 have hb := shv_bd d (fcJ d (4 * c + 0))
 have e1 : gI d s c = gnum d s (fcJ d (4 * c + 1)) := by unfold gI; rw [if_neg hs]
 have e2 : gJ d s c = gnum d s (fcJ d (4 * c + 3)) := by unfold gJ; rw [if_neg hs]
 have e3 : shv d (fcJ d (4 * c + 1)) = s := by omega
 have e4 : shv d (fcJ d (4 * c + 3)) = s := by omega
 refine ⟨e1, e2, by unfold gW; rw [if_neg hs], e3, e4, ?_, ?_⟩
 ·rw [e1]; exact gnum_in (fcJ_lt h (by omega)) e3
 ·rw [e2]; exact gnum_in (fcJ_lt h (by omega)) e4
def upS (E : Nat → Nat → Int) (i j : Nat) (w : Int) : Nat → Nat → Int := fun x y => if x = i ∧ y = j then wr (E i j - w) else E x y
def upA (E : Nat → Nat → Int) (i j : Nat) (w : Int) : Nat → Nat → Int := fun x y => if x = i ∧ y = j then wr (E i j + w) else E x y
def gStep (E : Nat → Nat → Int) (i j : Nat) (w : Int) : Nat → Nat → Int := upA (upA (upS (upS E i j w) j i w) i i w) j j w
noncomputable def gE (d : Dg) (s : Int) : Nat → Nat → Nat → Int
 | 0 => fun _ _ => 0
 | c + 1 => if gI d s c = gJ d s c then gE d s c else gStep (gE d s c) (gI d s c) (gJ d s c) (gW d s c)
noncomputable def gX (d : Dg) (s : Int) : Nat → Int
 | 0 => 0
 | c + 1 => if (ga d.crs c).plus = decide (gW d s c < 0) then wr (gX d s c + gW d s c) else gX d s c
noncomputable def gzL (d : Dg) (s : Int) : List (List Int) := tbl (gm d s) (gE d s d.crs.length)
theorem tbl_upS {m i j : Nat} {w : Int} (E : Nat → Nat → Int) (hi : i < m) (hj : j < m) : (tbl m E).set i ((ga (tbl m E) i).set j (wr (ga (ga (tbl m E) i) j - w))) = tbl m (upS E i j w) := by
 rw [tbl_at E hi hj]
 exact tbl_set _ _ _ hi hj fun x y _ _ => rfl
theorem tbl_upA {m i j : Nat} {w : Int} (E : Nat → Nat → Int) (hi : i < m) (hj : j < m) : (tbl m E).set i ((ga (tbl m E) i).set j (wr (ga (ga (tbl m E) i) j + w))) = tbl m (upA E i j w) := by
 rw [tbl_at E hi hj]
 exact tbl_set _ _ _ hi hj fun x y _ _ => rfl
theorem gE_eq {d : Dg} {s : Int} {c : Nat} (h : gI d s c = gJ d s c) : gE d s (c + 1) = gE d s c := by rw [gE, if_pos h]
theorem gE_ne {d : Dg} {s : Int} {c : Nat} (h : ¬ gI d s c = gJ d s c) : gE d s (c + 1) = gStep (gE d s c) (gI d s c) (gJ d s c) (gW d s c) := by rw [gE, if_neg h]
theorem gm_le (d : Dg) (s : Int) : gm d s ≤ (fcsC d).length := gnum_le _ _ _
noncomputable def GoeritzOf_n0 : Code := Try.f10.body.getD .skip
noncomputable def GoeritzOf_n1 : Code := cL GoeritzOf_n0
noncomputable def GoeritzOf_n2 : Code := cR GoeritzOf_n0
noncomputable def GoeritzOf_n3 : Code := cL GoeritzOf_n2
noncomputable def GoeritzOf_n4 : Code := cR GoeritzOf_n2
noncomputable def GoeritzOf_n5 : Code := cL GoeritzOf_n4
noncomputable def GoeritzOf_n6 : Code := cR GoeritzOf_n4
noncomputable def GoeritzOf_n7 : Code := cL GoeritzOf_n6
noncomputable def GoeritzOf_n8 : Code := cR GoeritzOf_n6
noncomputable def GoeritzOf_n9 : Code := cL GoeritzOf_n8
noncomputable def GoeritzOf_n10 : Code := cR GoeritzOf_n8
noncomputable def GoeritzOf_n11 : Code := cL GoeritzOf_n9
noncomputable def GoeritzOf_n12 : Code := cR GoeritzOf_n9
noncomputable def GoeritzOf_n13 : Code := cL GoeritzOf_n12
noncomputable def GoeritzOf_n14 : Code := cL GoeritzOf_n13
noncomputable def GoeritzOf_n15 : Code := cL GoeritzOf_n14
noncomputable def GoeritzOf_n16 : Code := cR GoeritzOf_n14
noncomputable def GoeritzOf_n17 : Code := cL GoeritzOf_n15
noncomputable def GoeritzOf_n18 : Code := cR GoeritzOf_n15
noncomputable def GoeritzOf_n19 : Code := cL GoeritzOf_n18
noncomputable def GoeritzOf_n20 : Code := cR GoeritzOf_n18
noncomputable def GoeritzOf_n21 : Code := cL GoeritzOf_n16
noncomputable def GoeritzOf_n22 : Code := cR GoeritzOf_n16
noncomputable def GoeritzOf_n23 : Code := cL GoeritzOf_n21
noncomputable def GoeritzOf_n24 : Code := cL GoeritzOf_n23
noncomputable def GoeritzOf_n25 : Code := cR GoeritzOf_n23
noncomputable def GoeritzOf_n26 : Code := cL GoeritzOf_n25
noncomputable def GoeritzOf_n27 : Code := cR GoeritzOf_n25
noncomputable def GoeritzOf_n28 : Code := cL GoeritzOf_n26
noncomputable def GoeritzOf_n29 : Code := cR GoeritzOf_n26
noncomputable def GoeritzOf_n30 : Code := cL GoeritzOf_n10
noncomputable def GoeritzOf_n31 : Code := cR GoeritzOf_n10
noncomputable def GoeritzOf_n32 : Code := cL GoeritzOf_n31
noncomputable def GoeritzOf_n33 : Code := cR GoeritzOf_n31
noncomputable def GoeritzOf_n34 : Code := cL GoeritzOf_n32
noncomputable def GoeritzOf_n35 : Code := cR GoeritzOf_n32
noncomputable def GoeritzOf_n36 : Code := cL GoeritzOf_n35
noncomputable def GoeritzOf_n37 : Code := cL GoeritzOf_n36
noncomputable def GoeritzOf_n38 : Code := cL GoeritzOf_n37
noncomputable def GoeritzOf_n39 : Code := cR GoeritzOf_n37
noncomputable def GoeritzOf_n40 : Code := cL GoeritzOf_n38
noncomputable def GoeritzOf_n41 : Code := cR GoeritzOf_n38
noncomputable def GoeritzOf_n42 : Code := cL GoeritzOf_n41
noncomputable def GoeritzOf_n43 : Code := cR GoeritzOf_n41
noncomputable def GoeritzOf_n44 : Code := cL GoeritzOf_n39
noncomputable def GoeritzOf_n45 : Code := cR GoeritzOf_n39
noncomputable def GoeritzOf_n46 : Code := cL GoeritzOf_n44
noncomputable def GoeritzOf_n47 : Code := cL GoeritzOf_n33
noncomputable def GoeritzOf_n48 : Code := cR GoeritzOf_n33
noncomputable def GoeritzOf_n49 : Code := cL GoeritzOf_n48
noncomputable def GoeritzOf_n50 : Code := cR GoeritzOf_n48
noncomputable def GoeritzOf_n51 : Code := cL GoeritzOf_n49
noncomputable def GoeritzOf_n52 : Code := cR GoeritzOf_n49
noncomputable def GoeritzOf_n53 : Code := cL GoeritzOf_n52
noncomputable def GoeritzOf_n54 : Code := cL GoeritzOf_n53
noncomputable def GoeritzOf_n55 : Code := cL GoeritzOf_n54
noncomputable def GoeritzOf_n56 : Code := cR GoeritzOf_n54
noncomputable def GoeritzOf_n57 : Code := cL GoeritzOf_n55
noncomputable def GoeritzOf_n58 : Code := cR GoeritzOf_n55
noncomputable def GoeritzOf_n59 : Code := cL GoeritzOf_n58
noncomputable def GoeritzOf_n60 : Code := cR GoeritzOf_n58
noncomputable def GoeritzOf_n61 : Code := cL GoeritzOf_n56
noncomputable def GoeritzOf_n62 : Code := cR GoeritzOf_n56
noncomputable def GoeritzOf_n63 : Code := cL GoeritzOf_n61
noncomputable def GoeritzOf_n64 : Code := cL GoeritzOf_n63
noncomputable def GoeritzOf_n65 : Code := cR GoeritzOf_n63
noncomputable def GoeritzOf_n66 : Code := cL GoeritzOf_n65
noncomputable def GoeritzOf_n67 : Code := cR GoeritzOf_n65
noncomputable def GoeritzOf_n68 : Code := cL GoeritzOf_n66
noncomputable def GoeritzOf_n69 : Code := cR GoeritzOf_n66
noncomputable def GoeritzOf_n70 : Code := cL GoeritzOf_n69
noncomputable def GoeritzOf_n71 : Code := cR GoeritzOf_n69
noncomputable def GoeritzOf_n72 : Code := cL GoeritzOf_n67
noncomputable def GoeritzOf_n73 : Code := cR GoeritzOf_n67
noncomputable def GoeritzOf_n74 : Code := cL GoeritzOf_n72
noncomputable def GoeritzOf_n75 : Code := cR GoeritzOf_n72
noncomputable def GoeritzOf_n76 : Code := cL GoeritzOf_n75
noncomputable def GoeritzOf_n77 : Code := cR GoeritzOf_n75
noncomputable def GoeritzOf_n78 : Code := cL GoeritzOf_n76
noncomputable def GoeritzOf_n79 : Code := cR GoeritzOf_n76
noncomputable def GoeritzOf_n80 : Code := cL GoeritzOf_n79
noncomputable def GoeritzOf_n81 : Code := cR GoeritzOf_n79
noncomputable def GoeritzOf_n82 : Code := cL GoeritzOf_n81
noncomputable def GoeritzOf_n83 : Code := cR GoeritzOf_n81
noncomputable def GoeritzOf_n84 : Code := cL GoeritzOf_n83
noncomputable def GoeritzOf_n85 : Code := cR GoeritzOf_n83
noncomputable def GoeritzOf_n86 : Code := cL GoeritzOf_n73
noncomputable def GoeritzOf_n87 : Code := cR GoeritzOf_n73
noncomputable def GoeritzOf_n88 : Code := cL GoeritzOf_n87
noncomputable def GoeritzOf_n89 : Code := cR GoeritzOf_n87
noncomputable def GoeritzOf_n90 : Code := cL GoeritzOf_n50
noncomputable def GoeritzOf_n91 : Code := cR GoeritzOf_n50
set_option maxHeartbeats 2000000 in
set_option maxRecDepth 10000 in
theorem GoeritzOf_t {w : World} {M : Hp} {X : Fr} (d : Dg) {dcrsA : Option Addr} {dcrsc : Nat} (sd : Int) (hdcrs : RdA cdCr (M.un X.h) dcrsA dcrsc d.crs) (hn : d.crs.length ≤ 16) (hS : OkS d) (h01 : sd = 0 ∨ sd = 1) (S : SH w M X []) : Ct Try.prog 10 [.agg [.slice dcrsA d.crs.length dcrsc, .int .i64 d.loops].toArray, .int .i64 sd] w M X (fun u N => ∃ A c vs, u = .tuple [.slice A vs.length c, .int .i64 (gX d sd d.crs.length)].toArray ∧ RdA (cdV 25) N A c vs ∧ Rd2 cdInt N vs (gzL d sd)) := by
 unfold Ct
 have rmhdcrs : d.crs.length * 40 ≤ 140737488355328 := hdcrs.room
 have hab := hS.ab
 have hfn := hS.fn
 have hgm := gm_le d sd
 refine calls_in (b := GoeritzOf_n0) Try.func10 rfl Try.ntmps10 rfl (fun C hC => (ws_sub [(0, _), (1, _)] ⟨rfl, rfl, trivial⟩ (ws_seqN GoeritzOf_n1 GoeritzOf_n2 rfl rfl rfl (ws_region rfl (wlo 0 1 rfl rfl rfl (wo_box (l := [_, _]) rfl rfl rfl rfl rfl S ?_))))))
 intro gb1 w1 S1; clear S
 refine wla 1 2 rfl rfl rfl rfl rfl rfl rfl (wla 2 3 rfl rfl rfl rfl rfl rfl rfl (wl_end rfl (nmk [1, 2] rfl (nm_thn ?_))))
 refine ws_seqN GoeritzOf_n3 GoeritzOf_n4 rfl rfl rfl (ws_draw rfl (by kernel_rfl) S1 6 rfl ?_)
 clear S1
 refine wat 0 5 rfl (by kernel_rfl) rfl rfl rfl (fun M1 N1 w2 hle1 S2 => .inl (run_loadN (us := [_, _]) rfl rfl Try.underlying24 rfl sz24 (S2.suf.boxcs (i := 0) rfl ⟨rfl, rfl, trivial⟩))) ?_
 refine wat 2 4 rfl (by kernel_rfl) rfl rfl rfl (fun M3 N3 w4 hle3 S4 => .inl (run_loadN (us := [_, _]) rfl rfl Try.underlying24 rfl sz24 (S4.suf.boxcs (i := 0) rfl ⟨rfl, rfl, trivial⟩))) ?_
 refine wa_only (i := 1) 3 rfl (by kernel_rfl) rfl rfl (fun w6 S6 => ?_)
 refine (wo_ct rfl rfl rfl rfl rfl rfl rfl cf16 S6 (FacesOf_t d (hdcrs.mono S6.un_XH) (hn) (hab) S6.lend) ?_)
 intro vw7 w7 M5 hle5 S7 hRw7; clear S6
 replace hdcrs := hdcrs.mono (Hp.un_mono hle5 S7.mx)
 obtain ⟨A1, c1, vs1, rfl, hr1, hd1⟩ := hRw7
 have hflA1 := hd1.1
 refine LeftW.grow [] (hle5) S7 ?_; clear S7
 change WA _ _ _ _ _ _ _ _ _ _ _ _ [_]
 refine wa_base (wa_only (i := 3) 2 rfl (by kernel_rfl) rfl rfl (fun w9 S9 => ?_))
 refine (wo_ct rfl rfl rfl rfl rfl rfl rfl cf9 S9 (ShadesOf_t d (hdcrs.mono S9.un_XH) (hn) (hS) S9.lend) ?_)
 intro vw10 w10 M7 hle7 S10 hRw10; clear S9
 replace hdcrs := hdcrs.mono (Hp.un_mono hle7 S10.mx)
 replace hr1 := hr1.mono hle7
 replace hd1 := hd1.mono hle7
 obtain ⟨A2, c2, rfl, hr2⟩ := hRw10
 refine LeftW.grow [] (hle7) S10 ?_; clear S10
 change WA _ _ _ _ _ _ _ _ _ _ _ _ [_]
 refine wa_base (wap 4 1 rfl (by kernel_rfl) rfl rfl rfl (fun w11 => run_assign rfl rfl) ?_)
 refine wap 5 0 rfl (by kernel_rfl) rfl rfl rfl (fun w12 => run_assign rfl rfl) ?_
 refine wa_end (by kernel_rfl) (fun w13 S13 => ?_)
 refine nmk [1, 2, 6, 7] rfl (nm_thn (ws_seqN GoeritzOf_n5 GoeritzOf_n6 rfl rfl rfl (ws_region rfl ?_)))
 have hff : vs1.length = (fcsC d).length := by rw [hd1.1, facesL_C, List.length_map]
 have hsl := shL_len d
 refine wlm 0 1 rfl rfl rfl rfl rfl rfl rfl (wlo 1 2 rfl rfl rfl (wo_run rfl rfl (run_len rfl rfl rfl rfl rfl rfl Try.underlying49) (wlo 2 3 rfl rfl rfl (wo_make (C := cdInt) vs1.length rfl rfl rfl rfl rfl sl25 (by first | rfl | omega) (by show _ * 8 ≤ _; first | assumption | omega | (simp only [lens]; omega)) S13 ?_))))
 intro vr1 w14 S14; clear S13
 refine wla 3 4 rfl rfl rfl rfl rfl rfl rfl (wl_end rfl (nmk [1, 2, 6, 7, 8] rfl (nm_thn (ws_seqN GoeritzOf_n7 GoeritzOf_n8 rfl rfl rfl ?_))))
 refine ws_region rfl (wla 0 1 rfl rfl rfl rfl rfl rfl rfl (wl_end rfl (nm_thn (ws_seqN GoeritzOf_n9 GoeritzOf_n10 rfl rfl rfl ?_))))
 refine ws_seqN GoeritzOf_n11 GoeritzOf_n12 rfl rfl rfl (ws_region rfl (wla 0 1 rfl rfl rfl rfl rfl rfl rfl (wl_end rfl (nm_thn ?_))))
 refine ws_blockN GoeritzOf_n13 0 rfl rfl rfl ?_
 refine ws_loopE (fun mx_ ax_ wx_ => ∃ (i : Nat) (ps : List Int) (vrp : Value), mx_ = (fcsC d).length - i ∧ Env 167 [(1, .int .i64 sd), (2, .pointer (some ⟨gb1, 0, none⟩)), (6, .slice A1 vs1.length c1), (7, .slice A2 (shL d).length c2), (8, vrp), (9, .int .i64 ((gnum d sd i : Nat) : Int)), (10, .int .i64 (i : Int))] ax_ ∧ SH wx_ M7 X [Rs.row cdInt vrp ps, Rs.box gb1 24 [.slice dcrsA d.crs.length dcrsc, .int .i64 d.loops]] ∧ i ≤ (fcsC d).length ∧ ps = numP d sd i) rfl ?_ ?_
 ·intro ax_ hax_
  refine ⟨_, ⟨0, _, _, rfl, hax_.sub ⟨rfl, rfl, rfl, rfl, rfl, rfl, rfl, trivial⟩, S14.pick [0, 1] [_, _] (by decide) ⟨rfl, rfl, trivial⟩, ?hq1f0, ?hq1f1⟩⟩
  case hq1f0 => omega
  case hq1f1 => (rw [hff]; rfl)
 ·rintro m1 a1 w15 ⟨i, ps, vrp, rfl, he1, S15, hi, hps⟩
  clear S14
  refine ws_in he1 (c := GoeritzOf_n14) rfl ?_
  clear he1 a1
  have hpl : ps.length = (fcsC d).length := by rw [hps, numP_len]
  have hgl := gnum_le d sd i
  refine ws_seqN GoeritzOf_n15 GoeritzOf_n16 rfl rfl rfl (ws_seqN GoeritzOf_n17 GoeritzOf_n18 rfl rfl rfl (ws_region rfl (wlm 0 1 rfl rfl rfl rfl rfl rfl rfl (wlm 1 2 rfl rfl rfl rfl rfl rfl rfl ?_))))
  refine wlo 2 3 rfl rfl rfl (wo_run rfl rfl (run_len rfl rfl rfl rfl rfl rfl Try.underlying49) (wlo 3 4 rfl rfl rfl (wo_run rfl rfl (run_lss rfl rfl rfl) (wl_end rfl (nmk [1, 2, 6, 7, 8, 9, 10, 30] rfl (nm_thn ?_))))))
  refine ws_condN GoeritzOf_n19 GoeritzOf_n20 rfl rfl rfl rfl (fun hb30 => ?_) (fun hb30 => ?_)
  ·replace hb30 := of_decide_eq_true hb30
   refine ws_skip rfl (nmk [1, 2, 6, 7, 8, 9, 10] rfl (nm_thn (ws_seqN GoeritzOf_n21 GoeritzOf_n22 rfl rfl rfl (ws_blockN GoeritzOf_n23 1 rfl rfl rfl ?_))))
   refine ws_seqN GoeritzOf_n24 GoeritzOf_n25 rfl rfl rfl (ws_region rfl (wlm 0 1 rfl rfl rfl rfl rfl rfl rfl (wlm 1 2 rfl rfl rfl rfl rfl rfl rfl (wlo 2 3 rfl rfl rfl (wo_run rfl rfl (run_indexM (C := cdInt) i rfl rfl rfl sl25 (by first | rfl | omega) hr2 (by first | assumption | omega | (simp only [lens]; omega))) ?_)))))
   refine wlo 3 4 rfl rfl rfl (wo_run rfl rfl (run_load1 rfl rfl Try.underlying3 rfl (hr2.cell S15.m (i := i) (by first | assumption | omega | (simp only [lens]; omega)) 0 rfl rfl)) ?_)
   refine wlm 4 5 rfl rfl rfl rfl rfl rfl rfl (wlo 5 6 rfl rfl rfl (wo_run rfl rfl (run_eql rfl rfl rfl) (wl_end rfl (nmk [1, 2, 6, 7, 8, 9, 10, 38] rfl (nm_thn ?_)))))
   refine ws_condN GoeritzOf_n26 GoeritzOf_n27 rfl rfl rfl rfl (fun hb38 => ?_) (fun hb38 => ?_)
   ·replace hb38 := of_decide_eq_true hb38
    rw [shL_ga (d := d) (i := i) (by omega)] at hb38
    refine ws_seqN GoeritzOf_n28 GoeritzOf_n29 rfl rfl rfl (ws_region rfl (wlm 0 1 rfl rfl rfl rfl rfl rfl rfl (wlm 1 2 rfl rfl rfl rfl rfl rfl rfl (wlm 2 3 rfl rfl rfl rfl rfl rfl rfl ?_))))
    refine wlo 3 4 rfl rfl rfl (wo_run rfl rfl (run_indexR (C := cdInt) (i := 0) i rfl rfl rfl sl25 S15 rfl (by first | rfl | omega) (by first | assumption | omega | (simp only [lens]; omega))) ?_)
    refine wlo 4 5 rfl rfl rfl (wo_storeR (C := cdInt) (i := 0) (e := i) (j := 0) (us := [_]) (H' := [_, _]) ((gnum d sd i : Nat) : Int) rfl rfl S15 rfl (by first | assumption | omega | (simp only [lens]; omega)) rfl rfl rfl sz3 rfl rfl rfl rfl ?_)
    intro w16 S16; clear S15
    refine wl_end rfl (nmk [1, 2, 6, 7, 8, 9, 10] rfl (nm_thn (ws_region rfl (wlm 0 1 rfl rfl rfl rfl rfl rfl rfl ?_))))
    refine wlo 1 2 rfl rfl rfl (wo_run rfl rfl (run_add rfl rfl rfl (by first | assumption | omega | (simp only [lens]; omega))) ?_)
    refine wla 2 3 rfl rfl rfl rfl rfl rfl rfl (wl_end rfl (nm_blk (nmk [1, 2, 6, 7, 8, 9, 10] rfl (nm_thn ?_))))
    refine ws_eq 9 (.int .i64 ((gnum d sd (i + 1) : Nat) : Int)) rfl (int_eq (by rw [gnum_t (by assumption)]; omega)) ?_
    refine ws_region rfl (wlm 0 1 rfl rfl rfl rfl rfl rfl rfl (wlo 1 2 rfl rfl rfl (wo_run rfl rfl (run_add rfl rfl rfl (by first | assumption | omega | (simp only [lens]; omega))) ?_)))
    refine wla 2 3 rfl rfl rfl rfl rfl rfl rfl (wl_end rfl (nm_lp ?_))
    intro ax_ hax_
    refine ⟨_, ?hq2m, ⟨i + 1, _, _, rfl, hax_.sub ⟨rfl, rfl, rfl, rfl, rfl, rfl, rfl, trivial⟩, S16.pick [0, 1] [_, _] (by decide) ⟨rfl, rfl, trivial⟩, ?hq2f0, ?hq2f1⟩⟩
    case hq2f0 => omega
    case hq2f1 => (rw [numP]; first | (rw [if_pos (by assumption), hps]) | (rw [if_neg (by assumption)]; exact hps))
    case hq2m => omega
   ·replace hb38 := of_decide_eq_false hb38
    rw [shL_ga (d := d) (i := i) (by omega)] at hb38
    refine ws_skip rfl (nm_blk (nmk [1, 2, 6, 7, 8, 9, 10] rfl (nm_thn (ws_eq 9 (.int .i64 ((gnum d sd (i + 1) : Nat) : Int)) rfl (int_eq (by rw [gnum_f (by assumption)])) ?_))))
    refine ws_region rfl (wlm 0 1 rfl rfl rfl rfl rfl rfl rfl (wlo 1 2 rfl rfl rfl (wo_run rfl rfl (run_add rfl rfl rfl (by first | assumption | omega | (simp only [lens]; omega))) ?_)))
    refine wla 2 3 rfl rfl rfl rfl rfl rfl rfl (wl_end rfl (nm_lp ?_))
    intro ax_ hax_
    refine ⟨_, ?hq3m, ⟨i + 1, _, _, rfl, hax_.sub ⟨rfl, rfl, rfl, rfl, rfl, rfl, rfl, trivial⟩, S15.pick [0, 1] [_, _] (by decide) ⟨rfl, rfl, trivial⟩, ?hq3f0, ?hq3f1⟩⟩
    case hq3f0 => omega
    case hq3f1 => (rw [numP]; first | (rw [if_pos (by assumption), hps]) | (rw [if_neg (by assumption)]; exact hps))
    case hq3m => omega
  ·replace hb30 := of_decide_eq_false hb30
   refine ws_exit rfl rfl (nmk [1, 2, 6, 7, 8, 9] rfl (nm_thn (ws_seqN GoeritzOf_n30 GoeritzOf_n31 rfl rfl rfl (ws_eq 9 (.int .i64 ((gm d sd : Nat) : Int)) rfl (int_eq (by obtain rfl : i = (fcsC d).length := (by omega); rfl)) ?_))))
   have hrc1 : ps = (numP d sd (fcsC d).length) := by (obtain rfl : i = (fcsC d).length := (by omega); exact hps)
   rw [hrc1] at S15; clear hrc1
   refine ws_region rfl (wla 0 1 rfl rfl rfl rfl rfl rfl rfl (wl_end rfl (nmk [1, 2, 6, 7, 8, 9, 11] rfl (nm_thn ?_))))
   refine ws_seqN GoeritzOf_n32 GoeritzOf_n33 rfl rfl rfl (ws_seqN GoeritzOf_n34 GoeritzOf_n35 rfl rfl rfl (ws_region rfl (wla 0 1 rfl rfl rfl rfl rfl rfl rfl (wl_end rfl ?_))))
   refine nm_thn (ws_blockN GoeritzOf_n36 2 rfl rfl rfl ?_)
   have S17 := S15.newtab0 cdInt; clear S15
   have S18 := S17.nilrow (cdV 25); clear S17
   refine ws_loopE (fun mx_ ax_ wx_ => ∃ (i : Nat) (vs : List SlV) (tb0 : List (List Int)) (vrt0 : Value), mx_ = (gm d sd) - i ∧ Env 167 [(1, .int .i64 sd), (2, .pointer (some ⟨gb1, 0, none⟩)), (6, .slice A1 vs1.length c1), (7, .slice A2 (shL d).length c2), (8, vrp), (9, .int .i64 ((gm d sd : Nat) : Int)), (11, vrt0), (12, .int .i64 (i : Int))] ax_ ∧ SH wx_ M7 X [Rs.row (cdV 25) vrt0 vs, Rs.tab cdInt vs tb0, Rs.row cdInt vrp (numP d sd (fcsC d).length), Rs.box gb1 24 [.slice dcrsA d.crs.length dcrsc, .int .i64 d.loops]] ∧ i ≤ (gm d sd) ∧ (vs.length = i ∧ tb0.length = i) ∧ (∀ q, q < i → ga tb0 q = List.replicate (gm d sd) 0)) rfl ?_ ?_
   ·intro ax_ hax_
    refine ⟨_, ⟨0, [], [], _, rfl, hax_.sub ⟨rfl, rfl, rfl, rfl, rfl, rfl, rfl, rfl, trivial⟩, S18.pick [0, 1, 2, 3] [_, _, _, _] (by decide) ⟨rfl, rfl, rfl, rfl, trivial⟩, ?hq4f0, ?hq4f1, ?hq4f2⟩⟩
    case hq4f0 => omega
    case hq4f1 => exact ⟨rfl, rfl⟩
    case hq4f2 => (intro q hq; omega)
   ·rintro m2 a2 w17 ⟨i, vs, tb0, vrt0, rfl, he2, S19, hi, hvl, hz0⟩
    clear S18
    refine ws_in he2 (c := GoeritzOf_n37) rfl ?_
    clear he2 a2
    refine ws_seqN GoeritzOf_n38 GoeritzOf_n39 rfl rfl rfl (ws_seqN GoeritzOf_n40 GoeritzOf_n41 rfl rfl rfl (ws_region rfl (wlm 0 1 rfl rfl rfl rfl rfl rfl rfl (wlm 1 2 rfl rfl rfl rfl rfl rfl rfl ?_))))
    refine wlo 2 3 rfl rfl rfl (wo_run rfl rfl (run_lss rfl rfl rfl) (wl_end rfl (nmk [1, 2, 6, 7, 8, 9, 11, 12, 47] rfl (nm_thn ?_))))
    refine ws_condN GoeritzOf_n42 GoeritzOf_n43 rfl rfl rfl rfl (fun hb47 => ?_) (fun hb47 => ?_)
    ·replace hb47 := of_decide_eq_true hb47
     refine ws_skip rfl (nmk [1, 2, 6, 7, 8, 9, 11, 12] rfl (nm_thn (ws_seqN GoeritzOf_n44 GoeritzOf_n45 rfl rfl rfl (ws_blockN GoeritzOf_n46 3 rfl rfl rfl ?_))))
     refine ws_region rfl (wlm 0 1 rfl rfl rfl rfl rfl rfl rfl (wlm 1 2 rfl rfl rfl rfl rfl rfl rfl (wlo 2 3 rfl rfl rfl (wo_make (C := cdInt) (gm d sd) rfl rfl rfl rfl rfl sl25 (by first | rfl | omega) (by show _ * 8 ≤ _; first | assumption | omega | (simp only [lens]; omega)) S19 ?_))))
     intro vr3 w18 S20; clear S19
     obtain ⟨A3, c3, rfl, _⟩ := S20.sl (i := 0) rfl
     have S21 := S20.tabsnoc (C := cdInt) (zs := (List.replicate (gm d sd) cdInt.z)) (i := 2) (q := 0) (H' := [_, _, _, _, _]) rfl rfl (by decide) rfl; clear S20
     refine wlo 3 4 rfl rfl rfl (wo_buildSlice1 (C := (cdV 25)) (l := [_]) rfl rfl rfl rfl sl30 rfl rfl rfl rfl S21 ?_)
     intro gb2 w19 S22; clear S21
     refine wlo 4 5 rfl rfl rfl (wo_append1 (C := (cdV 25)) (i := 2) (q := 0) (⟨A3, (List.replicate (gm d sd) cdInt.z).length, c3⟩ : SlV) rfl rfl rfl rfl rfl rfl rfl rfl sl30 S22 rfl rfl rfl (by show (_ + 1) * 24 ≤ _; first | assumption | omega | (simp only [lens]; omega)) ?_)
     intro vrt1 w20 S23; clear S22
     have S24 := S23.pick [1, 2, 3, 4, 5] [_, _, _, _, _] (by decide) ⟨rfl, rfl, rfl, rfl, rfl, trivial⟩; clear S23
     refine wla 5 6 rfl rfl rfl rfl rfl rfl rfl (wl_end rfl (nm_blk (nmk [1, 2, 6, 7, 8, 9, 11, 12] rfl (nm_thn ?_))))
     refine ws_region rfl (wlm 0 1 rfl rfl rfl rfl rfl rfl rfl (wlo 1 2 rfl rfl rfl (wo_run rfl rfl (run_add rfl rfl rfl (by first | assumption | omega | (simp only [lens]; omega))) ?_)))
     refine wla 2 3 rfl rfl rfl rfl rfl rfl rfl (wl_end rfl (nm_lp ?_))
     intro ax_ hax_
     refine ⟨_, ?hq5m, ⟨i + 1, _, _, _, rfl, hax_.sub ⟨rfl, rfl, rfl, rfl, rfl, rfl, rfl, rfl, trivial⟩, S24.pick [1, 2, 3, 4] [_, _, _, _] (by decide) ⟨rfl, rfl, rfl, rfl, trivial⟩, ?hq5f0, ?hq5f1, ?hq5f2⟩⟩
     case hq5f0 => omega
     case hq5f1 => (simp only [List.length_append, List.length_singleton]; omega)
     case hq5f2 => (intro q hq; by_cases e : q < i; (rw [ga_append_left _ _ _ (by omega)]; exact hz0 q e); (obtain rfl : q = i := (by omega); rw [ga_append_right _ _ _ (by omega), hvl.2, Nat.sub_self]; rfl))
     case hq5m => omega
    ·replace hb47 := of_decide_eq_false hb47
     refine ws_exit rfl rfl (nmk [1, 2, 6, 7, 8, 11] rfl (nm_thn (ws_seqN GoeritzOf_n47 GoeritzOf_n48 rfl rfl rfl (ws_region rfl ?_))))
     refine wla 0 1 rfl rfl rfl rfl rfl rfl rfl (wl_end rfl (nm_thn (ws_seqN GoeritzOf_n49 GoeritzOf_n50 rfl rfl rfl (ws_seqN GoeritzOf_n51 GoeritzOf_n52 rfl rfl rfl ?_))))
     refine ws_eq 13 (.int .i64 (gX d sd 0)) rfl (int_eq rfl) (ws_region rfl (wla 0 1 rfl rfl rfl rfl rfl rfl rfl (wl_end rfl (nmk [1, 2, 6, 7, 8, 11, 13, 14] rfl ?_))))
     refine nm_thn (ws_blockN GoeritzOf_n53 4 rfl rfl rfl ?_)
     refine ws_loopE (fun mx_ ax_ wx_ => ∃ (c : Nat) (vs : List SlV) (tb : List (List Int)) (vrt : Value), mx_ = d.crs.length - c ∧ Env 167 [(1, .int .i64 sd), (2, .pointer (some ⟨gb1, 0, none⟩)), (6, .slice A1 vs1.length c1), (7, .slice A2 (shL d).length c2), (8, vrp), (11, vrt), (13, .int .i64 (gX d sd c)), (14, .int .i64 (c : Int))] ax_ ∧ SH wx_ M7 X [Rs.row (cdV 25) vrt vs, Rs.tab cdInt vs tb, Rs.row cdInt vrp (numP d sd (fcsC d).length), Rs.box gb1 24 [.slice dcrsA d.crs.length dcrsc, .int .i64 d.loops]] ∧ c ≤ d.crs.length ∧ vs.length = (gm d sd) ∧ tb = tbl (gm d sd) (gE d sd c)) rfl ?_ ?_
     ·intro ax_ hax_
      refine ⟨_, ⟨0, _, tb0, _, rfl, hax_.sub ⟨rfl, rfl, rfl, rfl, rfl, rfl, rfl, rfl, trivial⟩, S19.pick [0, 1, 2, 3] [_, _, _, _] (by decide) ⟨rfl, rfl, rfl, rfl, trivial⟩, ?hq6f0, ?hq6f1, ?hq6f2⟩⟩
      case hq6f0 => omega
      case hq6f1 => omega
      case hq6f2 => (refine tbl_ext _ (by omega) (fun i hi => ?_) (fun i j hi hj => ?_); (rw [hz0 i (by omega), List.length_replicate]); (rw [hz0 i (by omega), ga_rep _ _ _ hj]; rfl))
     ·rintro m3 a3 w21 ⟨c, vs, tb, vrt, rfl, he3, S25, hc, hvl, htb⟩
      clear S19
      refine ws_in he3 (c := GoeritzOf_n54) rfl ?_
      clear he3 a3
      refine ws_seqN GoeritzOf_n55 GoeritzOf_n56 rfl rfl rfl (ws_seqN GoeritzOf_n57 GoeritzOf_n58 rfl rfl rfl (ws_region rfl (wlm 0 1 rfl rfl rfl rfl rfl rfl rfl (wlo 1 2 rfl rfl rfl (wo_run rfl rfl (run_fieldAddr rfl rfl Try.underlying24 rfl (ce22) (nf22)) ?_)))))
      refine wlo 2 3 rfl rfl rfl (wo_run rfl rfl (run_load1 rfl rfl Try.underlying22 rfl (S25.boxc (i := 3) rfl rfl)) (wlo 3 4 rfl rfl rfl (wo_run rfl rfl (run_len rfl rfl rfl rfl rfl rfl Try.underlying22) (wlo 4 5 rfl rfl rfl (wo_run rfl rfl (run_lss rfl rfl rfl) (wl_end rfl (nmk [1, 2, 6, 7, 8, 11, 13, 14, 59] rfl ?_)))))))
      refine nm_thn ?_
      refine ws_condN GoeritzOf_n59 GoeritzOf_n60 rfl rfl rfl rfl (fun hb59 => ?_) (fun hb59 => ?_)
      ·replace hb59 := of_decide_eq_true hb59
       have hf0 := fcJ_lt hS (j := 4 * c + 0) (by omega)
       have hf1 := fcJ_lt hS (j := 4 * c + 1) (by omega)
       have hf2 := fcJ_lt hS (j := 4 * c + 2) (by omega)
       have hf3 := fcJ_lt hS (j := 4 * c + 3) (by omega)
       have hpl : (numP d sd (fcsC d).length).length = (fcsC d).length := numP_len _ _ _
       refine ws_skip rfl (nmk [1, 2, 6, 7, 8, 11, 13, 14] rfl (nm_thn (ws_seqN GoeritzOf_n61 GoeritzOf_n62 rfl rfl rfl (ws_blockN GoeritzOf_n63 5 rfl rfl rfl ?_))))
       refine ws_seqN GoeritzOf_n64 GoeritzOf_n65 rfl rfl rfl (ws_draw rfl (by kernel_rfl) S25 13 rfl ?_)
       clear S25
       refine wap 0 12 rfl (by kernel_rfl) rfl rfl rfl (fun w22 => run_move rfl rfl) ?_
       refine wat 1 11 rfl (by kernel_rfl) rfl rfl rfl (fun M11 N9 w23 hle14 S27 => .inl (run_loadN (us := [_, _]) rfl rfl Try.underlying24 rfl sz24 (S27.suf.boxcs (i := 3) rfl ⟨rfl, rfl, trivial⟩))) ?_
       refine wap 2 10 rfl (by kernel_rfl) rfl rfl rfl (fun w24 => run_move rfl rfl) ?_
       refine wat 3 9 rfl (by kernel_rfl) rfl rfl rfl (fun M13 N11 w25 hle16 S29 => .inl (run_build (l := [_, _]) rfl rfl st53 rfl rfl)) ?_
       refine wat 4 8 rfl (by kernel_rfl) rfl rfl rfl (fun M14 N12 w26 hle17 S30 => yield_cq rfl rfl rfl rfl rfl cf17 S30 (faceAt_q (facesL d) d c 0 ((hr1.mono hle17).mono (Hp.le_un _ _)) ((hd1.mono hle17).mono (Hp.le_un _ _)) ((hdcrs.mono (Hp.un_mono hle17 S30.mx)).mono S30.un_XH) (rfl) (hn) (hab) ((by omega)) ((by omega)) S30.lend)) ?_
       refine wap 5 7 rfl (by kernel_rfl) rfl rfl rfl (fun w27 => run_move rfl rfl) ?_
       refine wat 6 6 rfl (by kernel_rfl) rfl rfl rfl (fun M16 N14 w28 hle19 S32 => .inl (run_loadN (us := [_, _]) rfl rfl Try.underlying24 rfl sz24 (S32.suf.boxcs (i := 3) rfl ⟨rfl, rfl, trivial⟩))) ?_
       refine wap 7 5 rfl (by kernel_rfl) rfl rfl rfl (fun w29 => run_move rfl rfl) ?_
       refine wat 8 4 rfl (by kernel_rfl) rfl rfl rfl (fun M18 N16 w30 hle21 S34 => .inl (run_build (l := [_, _]) rfl rfl st53 rfl rfl)) ?_
       refine wat 9 3 rfl (by kernel_rfl) rfl rfl rfl (fun M19 N17 w31 hle22 S35 => yield_cq rfl rfl rfl rfl rfl cf17 S35 (faceAt_q (facesL d) d c 2 ((hr1.mono hle22).mono (Hp.le_un _ _)) ((hd1.mono hle22).mono (Hp.le_un _ _)) ((hdcrs.mono (Hp.un_mono hle22 S35.mx)).mono S35.un_XH) (rfl) (hn) (hab) ((by omega)) ((by omega)) S35.lend)) ?_
       refine wap 10 2 rfl (by kernel_rfl) rfl rfl rfl (fun w32 => run_assign rfl rfl) ?_
       refine wap 11 1 rfl (by kernel_rfl) rfl rfl rfl (fun w33 => run_assign rfl rfl) ?_
       refine wap 12 0 rfl (by kernel_rfl) rfl rfl rfl (fun w34 => run_assign rfl rfl) ?_
       refine wa_end (by kernel_rfl) (fun w35 S39 => ?_)
       refine nmk [1, 2, 6, 7, 8, 11, 13, 14, 15, 16, 17] rfl (nm_thn (ws_seqN GoeritzOf_n66 GoeritzOf_n67 rfl rfl rfl (ws_seqN GoeritzOf_n68 GoeritzOf_n69 rfl rfl rfl (ws_region rfl ?_))))
       refine wlm 0 1 rfl rfl rfl rfl rfl rfl rfl (wlm 1 2 rfl rfl rfl rfl rfl rfl rfl (wlo 2 3 rfl rfl rfl (wo_run rfl rfl (run_indexM (C := cdInt) (fcJ d (4 * c + 0)) rfl rfl rfl sl25 (by first | rfl | omega) hr2 (by first | assumption | omega | (simp only [lens]; omega))) ?_)))
       refine wlo 3 4 rfl rfl rfl (wo_run rfl rfl (run_load1 rfl rfl Try.underlying3 rfl (hr2.cell S39.m (i := fcJ d (4 * c + 0)) (by first | assumption | omega | (simp only [lens]; omega)) 0 rfl rfl)) ?_)
       refine wlm 4 5 rfl rfl rfl rfl rfl rfl rfl (wlo 5 6 rfl rfl rfl (wo_run rfl rfl (run_neq rfl rfl rfl) (wl_end rfl (nmk [1, 2, 6, 7, 8, 11, 13, 14, 15, 16, 17, 77] rfl (nm_thn ?_)))))
       refine ws_condN GoeritzOf_n70 GoeritzOf_n71 rfl rfl rfl rfl (fun hb77 => ?_) (fun hb77 => ?_)
       ·replace hb77 := of_decide_eq_true hb77
        rw [shL_ga hf0] at hb77
        obtain ⟨gi, hgi0⟩ : ∃ x, x = gI d sd c := ⟨_, rfl⟩
        obtain ⟨gj, hgj0⟩ : ∃ x, x = gJ d sd c := ⟨_, rfl⟩
        obtain ⟨hI, hJ, hgw, hs1, hs2, hgi, hgj⟩ := g_no hS h01 (by omega) hb77
        rw [← hgi0] at hI hgi
        rw [← hgj0] at hJ hgj
        have hx1 := numP_ga (d := d) (s := sd) (Nat.le_refl _) hf1 hs1
        have hx2 := numP_ga (d := d) (s := sd) (Nat.le_refl _) hf3 hs2
        refine ws_draw rfl (by kernel_rfl) S39 13 rfl ?_
        clear S39
        refine wap 0 12 rfl (by kernel_rfl) rfl rfl rfl (fun w36 => run_move rfl rfl) ?_
        refine wat 1 11 rfl (by kernel_rfl) rfl rfl rfl (fun M24 N22 w37 hle27 S41 => .inl (run_loadN (us := [_, _]) rfl rfl Try.underlying24 rfl sz24 (S41.suf.boxcs (i := 3) rfl ⟨rfl, rfl, trivial⟩))) ?_
        refine wap 2 10 rfl (by kernel_rfl) rfl rfl rfl (fun w38 => run_move rfl rfl) ?_
        refine wat 3 9 rfl (by kernel_rfl) rfl rfl rfl (fun M26 N24 w39 hle29 S43 => .inl (run_build (l := [_, _]) rfl rfl st53 rfl rfl)) ?_
        refine wat 4 8 rfl (by kernel_rfl) rfl rfl rfl (fun M27 N25 w40 hle30 S44 => yield_cq rfl rfl rfl rfl rfl cf17 S44 (faceAt_q (facesL d) d c 1 ((hr1.mono hle30).mono (Hp.le_un _ _)) ((hd1.mono hle30).mono (Hp.le_un _ _)) ((hdcrs.mono (Hp.un_mono hle30 S44.mx)).mono S44.un_XH) (rfl) (hn) (hab) ((by omega)) ((by omega)) S44.lend)) ?_
        refine wap 5 7 rfl (by kernel_rfl) rfl rfl rfl (fun w41 => run_move rfl rfl) ?_
        refine wat 6 6 rfl (by kernel_rfl) rfl rfl rfl (fun M29 N27 w42 hle32 S46 => .inl (run_loadN (us := [_, _]) rfl rfl Try.underlying24 rfl sz24 (S46.suf.boxcs (i := 3) rfl ⟨rfl, rfl, trivial⟩))) ?_
        refine wap 7 5 rfl (by kernel_rfl) rfl rfl rfl (fun w43 => run_move rfl rfl) ?_
        refine wat 8 4 rfl (by kernel_rfl) rfl rfl rfl (fun M31 N29 w44 hle34 S48 => .inl (run_build (l := [_, _]) rfl rfl st53 rfl rfl)) ?_
        refine wat 9 3 rfl (by kernel_rfl) rfl rfl rfl (fun M32 N30 w45 hle35 S49 => yield_cq rfl rfl rfl rfl rfl cf17 S49 (faceAt_q (facesL d) d c 3 ((hr1.mono hle35).mono (Hp.le_un _ _)) ((hd1.mono hle35).mono (Hp.le_un _ _)) ((hdcrs.mono (Hp.un_mono hle35 S49.mx)).mono S49.un_XH) (rfl) (hn) (hab) ((by omega)) ((by omega)) S49.lend)) ?_
        refine wap 10 2 rfl (by kernel_rfl) rfl rfl rfl (fun w46 => run_assign rfl rfl) ?_
        refine wap 11 1 rfl (by kernel_rfl) rfl rfl rfl (fun w47 => run_assign rfl rfl) ?_
        refine wap 12 0 rfl (by kernel_rfl) rfl rfl rfl (fun w48 => run_assign rfl rfl) ?_
        refine wa_end (by kernel_rfl) (fun w49 S53 => ?_)
        refine nmk [1, 2, 6, 7, 8, 11, 13, 14, 15, 16, 17] rfl (nm_thn (ws_seqN GoeritzOf_n72 GoeritzOf_n73 rfl rfl rfl (ws_seqN GoeritzOf_n74 GoeritzOf_n75 rfl rfl rfl (ws_region rfl ?_))))
        refine wlm 0 1 rfl rfl rfl rfl rfl rfl rfl (wlm 1 2 rfl rfl rfl rfl rfl rfl rfl (wlo 2 3 rfl rfl rfl (wo_run rfl rfl (run_neq rfl rfl rfl) (wl_end rfl (nmk [1, 2, 6, 7, 8, 11, 13, 14, 15, 16, 17, 90] rfl ?_)))))
        refine nm_thn ?_
        refine ws_condN GoeritzOf_n76 GoeritzOf_n77 rfl rfl rfl rfl (fun hb90 => ?_) (fun hb90 => ?_)
        ·replace hb90 := of_decide_eq_true hb90
         have hij : ¬ gi = gj := fun e9 => hb90 (by rw [hI, hJ] at e9; exact congrArg Nat.cast (gnum_inj hs1 hs2 e9))
         refine ws_seqN GoeritzOf_n78 GoeritzOf_n79 rfl rfl rfl (ws_draw rfl (by kernel_rfl) S53 10 rfl ?_)
         clear S53
         refine wap 0 9 rfl (by kernel_rfl) rfl rfl rfl (fun w50 => run_move rfl rfl) ?_
         refine wap 1 8 rfl (by kernel_rfl) rfl rfl rfl (fun w51 => run_move rfl rfl) ?_
         refine wat 2 7 rfl (by kernel_rfl) rfl rfl rfl (fun M38 N36 w52 hle41 S56 => .inl (run_indexR (C := cdInt) (i := 2) (fcJ d (4 * c + 1)) rfl rfl rfl sl25 S56.suf rfl (by first | rfl | omega) (by first | assumption | omega | (simp only [lens]; omega)))) ?_
         refine wat 3 6 rfl (by kernel_rfl) rfl rfl rfl (fun M39 N37 w53 hle42 S57 => .inl (run_load1 rfl rfl Try.underlying3 rfl (S57.suf.rowc (i := 2) (e := fcJ d (4 * c + 1)) (j := 0) rfl (by first | assumption | omega | (simp only [lens]; omega)) rfl rfl))) ?_
         refine wap 4 5 rfl (by kernel_rfl) rfl rfl rfl (fun w54 => run_move rfl rfl) ?_
         refine wap 5 4 rfl (by kernel_rfl) rfl rfl rfl (fun w55 => run_move rfl rfl) ?_
         refine wat 6 3 rfl (by kernel_rfl) rfl rfl rfl (fun M42 N40 w56 hle45 S60 => .inl (run_indexR (C := cdInt) (i := 2) (fcJ d (4 * c + 3)) rfl rfl rfl sl25 S60.suf rfl (by first | rfl | omega) (by first | assumption | omega | (simp only [lens]; omega)))) ?_
         refine wat 7 2 rfl (by kernel_rfl) rfl rfl rfl (fun M43 N41 w57 hle46 S61 => .inl (run_load1 rfl rfl Try.underlying3 rfl (S61.suf.rowc (i := 2) (e := fcJ d (4 * c + 3)) (j := 0) rfl (by first | assumption | omega | (simp only [lens]; omega)) rfl rfl))) ?_
         refine wap 8 1 rfl (by kernel_rfl) rfl rfl rfl (fun w58 => run_assign rfl rfl) ?_
         refine wap 9 0 rfl (by kernel_rfl) rfl rfl rfl (fun w59 => run_assign rfl rfl) ?_
         refine wa_end (by kernel_rfl) (fun w60 S64 => ?_)
         refine nmk [1, 2, 6, 7, 8, 11, 13, 14, 17, 18, 19] rfl (nm_thn (ws_seqN GoeritzOf_n80 GoeritzOf_n81 rfl rfl rfl (ws_eq 18 (.int .i64 ((gi : Nat) : Int)) rfl (int_eq (by rw [hx1, hI])) ?_)))
         refine ws_eq 19 (.int .i64 ((gj : Nat) : Int)) rfl (int_eq (by rw [hx2, hJ])) ?_
         have hvi := Nat.lt_of_lt_of_eq hgi hvl.symm
         have hvj := Nat.lt_of_lt_of_eq hgj hvl.symm
         clear hx1 hx2 hf0 hf1 hf2 hf3 hs1 hs2 hI hJ hpl hb77 hb90
         have htl1 : gi < tb.length := by rw [htb, tbl_len]; exact hgi
         have htl2 : gi < (ga tb gi).length := by rw [htb, tbl_rlen _ hgi]; exact hgi
         have htl3 : gi < (ga tb gj).length := by rw [htb, tbl_rlen _ hgj]; exact hgi
         have htl4 : gj < tb.length := by rw [htb, tbl_len]; exact hgj
         have htl5 : gj < (ga tb gi).length := by rw [htb, tbl_rlen _ hgi]; exact hgj
         have htl6 : gj < (ga tb gj).length := by rw [htb, tbl_rlen _ hgj]; exact hgj
         refine ws_region rfl (wlm 0 1 rfl rfl rfl rfl rfl rfl rfl (wlm 1 2 rfl rfl rfl rfl rfl rfl rfl (wlo 2 3 rfl rfl rfl (wo_run rfl rfl (run_indexR (C := (cdV 25)) (i := 0) gi rfl rfl rfl sl30 S64 rfl (by first | rfl | omega) (by first | assumption | omega | (simp only [lens]; omega))) ?_))))
         refine wlo 3 4 rfl rfl rfl (wo_run rfl rfl (run_load1 rfl rfl Try.underlying25 rfl (S64.rowc (i := 0) (e := gi) (j := 0) rfl (by first | assumption | omega | (simp only [lens]; omega)) rfl rfl)) ?_)
         refine wlm 4 5 rfl rfl rfl rfl rfl rfl rfl (wlo 5 6 rfl rfl rfl (wo_run rfl rfl (run_indexT (C := cdInt) (vs := vs) (xss := tb) (i := 1) gi gj rfl rfl rfl rfl sl25 S64 rfl (by first | assumption | omega | (simp only [lens]; omega) | (rw [ga_set _ _ _ _ (by first | omega | (simp only [List.length_set]; omega)), if_pos rfl]; simp only [List.length_set]; omega)) (by first | rfl | omega) (by first | assumption | omega | (simp only [lens]; omega) | (rw [ga_set _ _ _ _ (by first | omega | (simp only [List.length_set]; omega)), if_pos rfl]; simp only [List.length_set]; omega))) ?_))
         refine wlo 6 7 rfl rfl rfl (wo_run rfl rfl (run_load1 rfl rfl Try.underlying3 rfl (S64.tabc (i := 1) (k := gi) (e := gj) (j := 0) rfl (by first | assumption | omega | (simp only [lens]; omega) | (rw [ga_set _ _ _ _ (by first | omega | (simp only [List.length_set]; omega)), if_pos rfl]; simp only [List.length_set]; omega)) (by first | assumption | omega | (simp only [lens]; omega) | (rw [ga_set _ _ _ _ (by first | omega | (simp only [List.length_set]; omega)), if_pos rfl]; simp only [List.length_set]; omega)) rfl rfl)) ?_)
         refine wlm 7 8 rfl rfl rfl rfl rfl rfl rfl (wlo 8 9 rfl rfl rfl (wo_run rfl rfl (run_subW rfl rfl rfl) (wlo 9 10 rfl rfl rfl (wo_run rfl rfl (run_indexT (C := cdInt) (vs := vs) (xss := tb) (i := 1) gi gj rfl rfl rfl rfl sl25 S64 rfl (by first | assumption | omega | (simp only [lens]; omega) | (rw [ga_set _ _ _ _ (by first | omega | (simp only [List.length_set]; omega)), if_pos rfl]; simp only [List.length_set]; omega)) (by first | rfl | omega) (by first | assumption | omega | (simp only [lens]; omega) | (rw [ga_set _ _ _ _ (by first | omega | (simp only [List.length_set]; omega)), if_pos rfl]; simp only [List.length_set]; omega))) ?_))))
         refine wlo 10 11 rfl rfl rfl (wo_storeT (C := cdInt) (vs := vs) (xss := tb) (i := 1) (k := gi) (e := gj) (j := 0) (us := [_]) (H' := [_, _, _, _]) (wr ((ga (ga tb gi) gj) - 1)) rfl rfl S64 rfl (by first | assumption | omega | (simp only [lens]; omega) | (rw [ga_set _ _ _ _ (by first | omega | (simp only [List.length_set]; omega)), if_pos rfl]; simp only [List.length_set]; omega)) (by first | assumption | omega | (simp only [lens]; omega) | (rw [ga_set _ _ _ _ (by first | omega | (simp only [List.length_set]; omega)), if_pos rfl]; simp only [List.length_set]; omega)) rfl rfl rfl sz3 rfl rfl rfl rfl ?_)
         intro w61 S65; clear S64
         refine wl_end rfl (nmk [1, 2, 6, 7, 8, 11, 13, 14, 17, 18, 19] rfl (nm_thn (ws_seqN GoeritzOf_n82 GoeritzOf_n83 rfl rfl rfl ?_)))
         obtain ⟨tq1, eq_1, htq1, heq_1, hsq1⟩ : ∃ t E, t = tbl (gm d sd) E ∧ E = upS (gE d sd c) gi gj 1 ∧ tb.set gi ((ga tb gi).set gj (wr ((ga (ga tb gi) gj) - 1))) = t := ⟨_, _, rfl, rfl, by rw [htb]; exact tbl_upS (gE d sd c) hgi hgj⟩
         rw [hsq1] at S65; clear hsq1
         have htl7 : gi < tq1.length := by rw [htq1, tbl_len]; exact hgi
         have htl8 : gi < (ga tq1 gi).length := by rw [htq1, tbl_rlen _ hgi]; exact hgi
         have htl9 : gi < (ga tq1 gj).length := by rw [htq1, tbl_rlen _ hgj]; exact hgi
         have htl10 : gj < tq1.length := by rw [htq1, tbl_len]; exact hgj
         have htl11 : gj < (ga tq1 gi).length := by rw [htq1, tbl_rlen _ hgi]; exact hgj
         have htl12 : gj < (ga tq1 gj).length := by rw [htq1, tbl_rlen _ hgj]; exact hgj
         refine ws_region rfl (wlm 0 1 rfl rfl rfl rfl rfl rfl rfl (wlm 1 2 rfl rfl rfl rfl rfl rfl rfl (wlo 2 3 rfl rfl rfl (wo_run rfl rfl (run_indexR (C := (cdV 25)) (i := 0) gj rfl rfl rfl sl30 S65 rfl (by first | rfl | omega) (by first | assumption | omega | (simp only [lens]; omega))) ?_))))
         refine wlo 3 4 rfl rfl rfl (wo_run rfl rfl (run_load1 rfl rfl Try.underlying25 rfl (S65.rowc (i := 0) (e := gj) (j := 0) rfl (by first | assumption | omega | (simp only [lens]; omega)) rfl rfl)) ?_)
         refine wlm 4 5 rfl rfl rfl rfl rfl rfl rfl (wlo 5 6 rfl rfl rfl (wo_run rfl rfl (run_indexT (C := cdInt) (vs := vs) (xss := tq1) (i := 1) gj gi rfl rfl rfl rfl sl25 S65 rfl (by first | assumption | omega | (simp only [lens]; omega) | (rw [ga_set _ _ _ _ (by first | omega | (simp only [List.length_set]; omega)), if_pos rfl]; simp only [List.length_set]; omega)) (by first | rfl | omega) (by first | assumption | omega | (simp only [lens]; omega) | (rw [ga_set _ _ _ _ (by first | omega | (simp only [List.length_set]; omega)), if_pos rfl]; simp only [List.length_set]; omega))) ?_))
         refine wlo 6 7 rfl rfl rfl (wo_run rfl rfl (run_load1 rfl rfl Try.underlying3 rfl (S65.tabc (i := 1) (k := gj) (e := gi) (j := 0) rfl (by first | assumption | omega | (simp only [lens]; omega) | (rw [ga_set _ _ _ _ (by first | omega | (simp only [List.length_set]; omega)), if_pos rfl]; simp only [List.length_set]; omega)) (by first | assumption | omega | (simp only [lens]; omega) | (rw [ga_set _ _ _ _ (by first | omega | (simp only [List.length_set]; omega)), if_pos rfl]; simp only [List.length_set]; omega)) rfl rfl)) ?_)
         refine wlm 7 8 rfl rfl rfl rfl rfl rfl rfl (wlo 8 9 rfl rfl rfl (wo_run rfl rfl (run_subW rfl rfl rfl) (wlo 9 10 rfl rfl rfl (wo_run rfl rfl (run_indexT (C := cdInt) (vs := vs) (xss := tq1) (i := 1) gj gi rfl rfl rfl rfl sl25 S65 rfl (by first | assumption | omega | (simp only [lens]; omega) | (rw [ga_set _ _ _ _ (by first | omega | (simp only [List.length_set]; omega)), if_pos rfl]; simp only [List.length_set]; omega)) (by first | rfl | omega) (by first | assumption | omega | (simp only [lens]; omega) | (rw [ga_set _ _ _ _ (by first | omega | (simp only [List.length_set]; omega)), if_pos rfl]; simp only [List.length_set]; omega))) ?_))))
         refine wlo 10 11 rfl rfl rfl (wo_storeT (C := cdInt) (vs := vs) (xss := tq1) (i := 1) (k := gj) (e := gi) (j := 0) (us := [_]) (H' := [_, _, _, _]) (wr ((ga (ga tq1 gj) gi) - 1)) rfl rfl S65 rfl (by first | assumption | omega | (simp only [lens]; omega) | (rw [ga_set _ _ _ _ (by first | omega | (simp only [List.length_set]; omega)), if_pos rfl]; simp only [List.length_set]; omega)) (by first | assumption | omega | (simp only [lens]; omega) | (rw [ga_set _ _ _ _ (by first | omega | (simp only [List.length_set]; omega)), if_pos rfl]; simp only [List.length_set]; omega)) rfl rfl rfl sz3 rfl rfl rfl rfl ?_)
         intro w62 S66; clear S65
         refine wl_end rfl (nmk [1, 2, 6, 7, 8, 11, 13, 14, 17, 18, 19] rfl (nm_thn (ws_seqN GoeritzOf_n84 GoeritzOf_n85 rfl rfl rfl ?_)))
         obtain ⟨tq2, eq_2, htq2, heq_2, hsq2⟩ : ∃ t E, t = tbl (gm d sd) E ∧ E = upS eq_1 gj gi 1 ∧ tq1.set gj ((ga tq1 gj).set gi (wr ((ga (ga tq1 gj) gi) - 1))) = t := ⟨_, _, rfl, rfl, by rw [htq1]; exact tbl_upS eq_1 hgj hgi⟩
         rw [hsq2] at S66; clear hsq2
         have htl13 : gi < tq2.length := by rw [htq2, tbl_len]; exact hgi
         have htl14 : gi < (ga tq2 gi).length := by rw [htq2, tbl_rlen _ hgi]; exact hgi
         have htl15 : gi < (ga tq2 gj).length := by rw [htq2, tbl_rlen _ hgj]; exact hgi
         have htl16 : gj < tq2.length := by rw [htq2, tbl_len]; exact hgj
         have htl17 : gj < (ga tq2 gi).length := by rw [htq2, tbl_rlen _ hgi]; exact hgj
         have htl18 : gj < (ga tq2 gj).length := by rw [htq2, tbl_rlen _ hgj]; exact hgj
         refine ws_region rfl (wlm 0 1 rfl rfl rfl rfl rfl rfl rfl (wlm 1 2 rfl rfl rfl rfl rfl rfl rfl (wlo 2 3 rfl rfl rfl (wo_run rfl rfl (run_indexR (C := (cdV 25)) (i := 0) gi rfl rfl rfl sl30 S66 rfl (by first | rfl | omega) (by first | assumption | omega | (simp only [lens]; omega))) ?_))))
         refine wlo 3 4 rfl rfl rfl (wo_run rfl rfl (run_load1 rfl rfl Try.underlying25 rfl (S66.rowc (i := 0) (e := gi) (j := 0) rfl (by first | assumption | omega | (simp only [lens]; omega)) rfl rfl)) ?_)
         refine wlm 4 5 rfl rfl rfl rfl rfl rfl rfl (wlo 5 6 rfl rfl rfl (wo_run rfl rfl (run_indexT (C := cdInt) (vs := vs) (xss := tq2) (i := 1) gi gi rfl rfl rfl rfl sl25 S66 rfl (by first | assumption | omega | (simp only [lens]; omega) | (rw [ga_set _ _ _ _ (by first | omega | (simp only [List.length_set]; omega)), if_pos rfl]; simp only [List.length_set]; omega)) (by first | rfl | omega) (by first | assumption | omega | (simp only [lens]; omega) | (rw [ga_set _ _ _ _ (by first | omega | (simp only [List.length_set]; omega)), if_pos rfl]; simp only [List.length_set]; omega))) ?_))
         refine wlo 6 7 rfl rfl rfl (wo_run rfl rfl (run_load1 rfl rfl Try.underlying3 rfl (S66.tabc (i := 1) (k := gi) (e := gi) (j := 0) rfl (by first | assumption | omega | (simp only [lens]; omega) | (rw [ga_set _ _ _ _ (by first | omega | (simp only [List.length_set]; omega)), if_pos rfl]; simp only [List.length_set]; omega)) (by first | assumption | omega | (simp only [lens]; omega) | (rw [ga_set _ _ _ _ (by first | omega | (simp only [List.length_set]; omega)), if_pos rfl]; simp only [List.length_set]; omega)) rfl rfl)) ?_)
         refine wlm 7 8 rfl rfl rfl rfl rfl rfl rfl (wlo 8 9 rfl rfl rfl (wo_run rfl rfl (run_addW rfl rfl rfl) (wlo 9 10 rfl rfl rfl (wo_run rfl rfl (run_indexT (C := cdInt) (vs := vs) (xss := tq2) (i := 1) gi gi rfl rfl rfl rfl sl25 S66 rfl (by first | assumption | omega | (simp only [lens]; omega) | (rw [ga_set _ _ _ _ (by first | omega | (simp only [List.length_set]; omega)), if_pos rfl]; simp only [List.length_set]; omega)) (by first | rfl | omega) (by first | assumption | omega | (simp only [lens]; omega) | (rw [ga_set _ _ _ _ (by first | omega | (simp only [List.length_set]; omega)), if_pos rfl]; simp only [List.length_set]; omega))) ?_))))
         refine wlo 10 11 rfl rfl rfl (wo_storeT (C := cdInt) (vs := vs) (xss := tq2) (i := 1) (k := gi) (e := gi) (j := 0) (us := [_]) (H' := [_, _, _, _]) (wr ((ga (ga tq2 gi) gi) + 1)) rfl rfl S66 rfl (by first | assumption | omega | (simp only [lens]; omega) | (rw [ga_set _ _ _ _ (by first | omega | (simp only [List.length_set]; omega)), if_pos rfl]; simp only [List.length_set]; omega)) (by first | assumption | omega | (simp only [lens]; omega) | (rw [ga_set _ _ _ _ (by first | omega | (simp only [List.length_set]; omega)), if_pos rfl]; simp only [List.length_set]; omega)) rfl rfl rfl sz3 rfl rfl rfl rfl ?_)
         intro w63 S67; clear S66
         refine wl_end rfl (nmk [1, 2, 6, 7, 8, 11, 13, 14, 17, 19] rfl (nm_thn ?_))
         obtain ⟨tq3, eq_3, htq3, heq_3, hsq3⟩ : ∃ t E, t = tbl (gm d sd) E ∧ E = upA eq_2 gi gi 1 ∧ tq2.set gi ((ga tq2 gi).set gi (wr ((ga (ga tq2 gi) gi) + 1))) = t := ⟨_, _, rfl, rfl, by rw [htq2]; exact tbl_upA eq_2 hgi hgi⟩
         rw [hsq3] at S67; clear hsq3
         have htl19 : gi < tq3.length := by rw [htq3, tbl_len]; exact hgi
         have htl20 : gi < (ga tq3 gi).length := by rw [htq3, tbl_rlen _ hgi]; exact hgi
         have htl21 : gi < (ga tq3 gj).length := by rw [htq3, tbl_rlen _ hgj]; exact hgi
         have htl22 : gj < tq3.length := by rw [htq3, tbl_len]; exact hgj
         have htl23 : gj < (ga tq3 gi).length := by rw [htq3, tbl_rlen _ hgi]; exact hgj
         have htl24 : gj < (ga tq3 gj).length := by rw [htq3, tbl_rlen _ hgj]; exact hgj
         refine ws_region rfl (wlm 0 1 rfl rfl rfl rfl rfl rfl rfl (wlm 1 2 rfl rfl rfl rfl rfl rfl rfl (wlo 2 3 rfl rfl rfl (wo_run rfl rfl (run_indexR (C := (cdV 25)) (i := 0) gj rfl rfl rfl sl30 S67 rfl (by first | rfl | omega) (by first | assumption | omega | (simp only [lens]; omega))) ?_))))
         refine wlo 3 4 rfl rfl rfl (wo_run rfl rfl (run_load1 rfl rfl Try.underlying25 rfl (S67.rowc (i := 0) (e := gj) (j := 0) rfl (by first | assumption | omega | (simp only [lens]; omega)) rfl rfl)) ?_)
         refine wlm 4 5 rfl rfl rfl rfl rfl rfl rfl (wlo 5 6 rfl rfl rfl (wo_run rfl rfl (run_indexT (C := cdInt) (vs := vs) (xss := tq3) (i := 1) gj gj rfl rfl rfl rfl sl25 S67 rfl (by first | assumption | omega | (simp only [lens]; omega) | (rw [ga_set _ _ _ _ (by first | omega | (simp only [List.length_set]; omega)), if_pos rfl]; simp only [List.length_set]; omega)) (by first | rfl | omega) (by first | assumption | omega | (simp only [lens]; omega) | (rw [ga_set _ _ _ _ (by first | omega | (simp only [List.length_set]; omega)), if_pos rfl]; simp only [List.length_set]; omega))) ?_))
         refine wlo 6 7 rfl rfl rfl (wo_run rfl rfl (run_load1 rfl rfl Try.underlying3 rfl (S67.tabc (i := 1) (k := gj) (e := gj) (j := 0) rfl (by first | assumption | omega | (simp only [lens]; omega) | (rw [ga_set _ _ _ _ (by first | omega | (simp only [List.length_set]; omega)), if_pos rfl]; simp only [List.length_set]; omega)) (by first | assumption | omega | (simp only [lens]; omega) | (rw [ga_set _ _ _ _ (by first | omega | (simp only [List.length_set]; omega)), if_pos rfl]; simp only [List.length_set]; omega)) rfl rfl)) ?_)
         refine wlm 7 8 rfl rfl rfl rfl rfl rfl rfl (wlo 8 9 rfl rfl rfl (wo_run rfl rfl (run_addW rfl rfl rfl) (wlo 9 10 rfl rfl rfl (wo_run rfl rfl (run_indexT (C := cdInt) (vs := vs) (xss := tq3) (i := 1) gj gj rfl rfl rfl rfl sl25 S67 rfl (by first | assumption | omega | (simp only [lens]; omega) | (rw [ga_set _ _ _ _ (by first | omega | (simp only [List.length_set]; omega)), if_pos rfl]; simp only [List.length_set]; omega)) (by first | rfl | omega) (by first | assumption | omega | (simp only [lens]; omega) | (rw [ga_set _ _ _ _ (by first | omega | (simp only [List.length_set]; omega)), if_pos rfl]; simp only [List.length_set]; omega))) ?_))))
         refine wlo 10 11 rfl rfl rfl (wo_storeT (C := cdInt) (vs := vs) (xss := tq3) (i := 1) (k := gj) (e := gj) (j := 0) (us := [_]) (H' := [_, _, _, _]) (wr ((ga (ga tq3 gj) gj) + 1)) rfl rfl S67 rfl (by first | assumption | omega | (simp only [lens]; omega) | (rw [ga_set _ _ _ _ (by first | omega | (simp only [List.length_set]; omega)), if_pos rfl]; simp only [List.length_set]; omega)) (by first | assumption | omega | (simp only [lens]; omega) | (rw [ga_set _ _ _ _ (by first | omega | (simp only [List.length_set]; omega)), if_pos rfl]; simp only [List.length_set]; omega)) rfl rfl rfl sz3 rfl rfl rfl rfl ?_)
         intro w64 S68; clear S67
         refine wl_end rfl (nmk [1, 2, 6, 7, 8, 11, 13, 14, 17] rfl (nm_thn (ws_seqN GoeritzOf_n86 GoeritzOf_n87 rfl rfl rfl ?_)))
         obtain ⟨tq4, eq_4, htq4, heq_4, hsq4⟩ : ∃ t E, t = tbl (gm d sd) E ∧ E = upA eq_3 gj gj 1 ∧ tq3.set gj ((ga tq3 gj).set gj (wr ((ga (ga tq3 gj) gj) + 1))) = t := ⟨_, _, rfl, rfl, by rw [htq3]; exact tbl_upA eq_3 hgj hgj⟩
         rw [hsq4] at S68; clear hsq4
         refine ws_region rfl (wlo 0 1 rfl rfl rfl (wo_run rfl rfl (run_fieldAddr rfl rfl Try.underlying24 rfl (ce22) (nf22)) (wlo 1 2 rfl rfl rfl (wo_run rfl rfl (run_load1 rfl rfl Try.underlying22 rfl (S68.boxc (i := 3) rfl rfl)) (wlm 2 3 rfl rfl rfl rfl rfl rfl rfl (wlo 3 4 rfl rfl rfl (wo_run rfl rfl (run_indexM (C := cdCr) c rfl rfl rfl sl22 (by first | rfl | omega) hdcrs (by first | assumption | omega | (simp only [lens]; omega))) ?_)))))))
         refine wlo 4 5 rfl rfl rfl (wo_run rfl rfl (run_fieldAddr rfl rfl Try.underlying55 rfl (ce4) (nf4)) (wlo 5 6 rfl rfl rfl (wo_run rfl rfl (run_load1 rfl rfl Try.underlying4 rfl (hdcrs.cell S68.um (i := c) (by first | assumption | omega | (simp only [lens]; omega)) 4 rfl rfl)) ?_)))
         refine wlm 6 7 rfl rfl rfl rfl rfl rfl rfl ?_
         refine wl_split (t := 145) rfl (fun hg145 => ?_) (fun hg145 => ?_)
         ·refine wlg 7 8 rfl rfl rfl rfl rfl rfl rfl rfl (wo_run rfl rfl (run_move rfl rfl) (wlg 8 9 rfl rfl rfl rfl rfl rfl rfl rfl (wo_run rfl rfl (run_eql rfl rfl rfl) (wlo 9 10 rfl rfl rfl (wo_run rfl rfl (run_pickT rfl rfl rfl) (wlm 10 11 rfl rfl rfl rfl rfl rfl rfl ?_))))))
          refine wl_split (t := 149) rfl (fun hg149 => ?_) (fun hg149 => ?_)
          ·replace hg149 := of_decide_eq_true hg149
           exfalso; omega
          ·replace hg149 := of_decide_eq_false hg149
           refine wlg 11 12 rfl rfl rfl rfl rfl rfl rfl rfl (wo_run rfl rfl (run_fieldAddr rfl rfl Try.underlying24 rfl (ce22) (nf22)) (wlg 12 13 rfl rfl rfl rfl rfl rfl rfl rfl (wo_run rfl rfl (run_load1 rfl rfl Try.underlying22 rfl (S68.boxc (i := 3) rfl rfl)) (wlg 13 14 rfl rfl rfl rfl rfl rfl rfl rfl (wo_run rfl rfl (run_move rfl rfl) (wlg 14 15 rfl rfl rfl rfl rfl rfl rfl rfl (wo_run rfl rfl (run_indexM (C := cdCr) c rfl rfl rfl sl22 (by first | rfl | omega) hdcrs (by first | assumption | omega | (simp only [lens]; omega))) ?_)))))))
           refine wlg 15 16 rfl rfl rfl rfl rfl rfl rfl rfl (wo_run rfl rfl (run_fieldAddr rfl rfl Try.underlying55 rfl (ce4) (nf4)) (wlg 16 17 rfl rfl rfl rfl rfl rfl rfl rfl (wo_run rfl rfl (run_load1 rfl rfl Try.underlying4 rfl (hdcrs.cell S68.um (i := c) (by first | assumption | omega | (simp only [lens]; omega)) 4 rfl rfl)) ?_)))
           refine wlg 17 18 rfl rfl rfl rfl rfl rfl rfl rfl (wo_run rfl rfl (run_not rfl rfl) (wlg 18 19 rfl rfl rfl rfl rfl rfl rfl rfl (wo_run rfl rfl (run_move rfl rfl) ?_)))
           refine wl_split (t := 157) rfl (fun hg157 => ?_) (fun hg157 => ?_)
           ·simp only [Bool.and_eq_true, Bool.or_eq_true, Bool.and_eq_false_iff, Bool.or_eq_false_iff, decide_eq_true_eq, decide_eq_false_iff_not, Bool.not_eq_true', Bool.not_eq_false'] at hg157
            exfalso; exact absurd (hg145.symm.trans hg157) (by decide)
           ·simp only [Bool.and_eq_true, Bool.or_eq_true, Bool.and_eq_false_iff, Bool.or_eq_false_iff, decide_eq_true_eq, decide_eq_false_iff_not, Bool.not_eq_true', Bool.not_eq_false'] at hg157
            refine wln 19 20 rfl rfl rfl rfl rfl rfl rfl rfl rfl (wln 20 21 rfl rfl rfl rfl rfl rfl rfl rfl rfl (wlg 21 22 rfl rfl rfl rfl rfl rfl rfl rfl (wo_run rfl rfl (run_pickF rfl rfl rfl) (wlo 22 23 rfl rfl rfl (wo_run rfl rfl (run_pickF rfl rfl rfl) (wl_end rfl ?_))))))
            refine nmk [1, 2, 6, 7, 8, 11, 13, 14, 17, 161] rfl (nm_thn (ws_condFN GoeritzOf_n89 rfl rfl rfl (ws_skip rfl (nm_blk ?_))))
            refine nmk [1, 2, 6, 7, 8, 11, 13, 14] rfl (nm_thn (ws_eq 13 (.int .i64 (gX d sd (c + 1))) rfl (int_eq (by rw [gX, hgw]; first | (rw [if_pos (by first | (rw [hg145]; done) | (rw [hg145]; decide))]; done) | (rw [if_neg (by rw [hg145]; decide)]; done))) ?_))
            refine ws_region rfl (wlm 0 1 rfl rfl rfl rfl rfl rfl rfl (wlo 1 2 rfl rfl rfl (wo_run rfl rfl (run_add rfl rfl rfl (by first | assumption | omega | (simp only [lens]; omega))) ?_)))
            refine wla 2 3 rfl rfl rfl rfl rfl rfl rfl (wl_end rfl (nm_lp ?_))
            intro ax_ hax_
            refine ⟨_, ?hq7m, ⟨c + 1, _, _, _, rfl, hax_.sub ⟨rfl, rfl, rfl, rfl, rfl, rfl, rfl, rfl, trivial⟩, S68.pick [0, 1, 2, 3] [_, _, _, _] (by decide) ⟨rfl, rfl, rfl, rfl, trivial⟩, ?hq7f0, ?hq7f1, ?hq7f2⟩⟩
            case hq7f0 => omega
            case hq7f1 => assumption
            case hq7f2 => (rw [htq4, heq_4, heq_3, heq_2, heq_1, gE_ne (by rw [← hgi0, ← hgj0]; exact hij), hgw, ← hgi0, ← hgj0]; rfl)
            case hq7m => omega
         ·refine wln 7 8 rfl rfl rfl rfl rfl rfl rfl rfl rfl (wln 8 9 rfl rfl rfl rfl rfl rfl rfl rfl rfl (wlo 9 10 rfl rfl rfl (wo_run rfl rfl (run_pickF rfl rfl rfl) (wlm 10 11 rfl rfl rfl rfl rfl rfl rfl (wlg 11 12 rfl rfl rfl rfl rfl rfl rfl rfl (wo_run rfl rfl (run_fieldAddr rfl rfl Try.underlying24 rfl (ce22) (nf22)) ?_))))))
          refine wlg 12 13 rfl rfl rfl rfl rfl rfl rfl rfl (wo_run rfl rfl (run_load1 rfl rfl Try.underlying22 rfl (S68.boxc (i := 3) rfl rfl)) (wlg 13 14 rfl rfl rfl rfl rfl rfl rfl rfl (wo_run rfl rfl (run_move rfl rfl) (wlg 14 15 rfl rfl rfl rfl rfl rfl rfl rfl (wo_run rfl rfl (run_indexM (C := cdCr) c rfl rfl rfl sl22 (by first | rfl | omega) hdcrs (by first | assumption | omega | (simp only [lens]; omega))) ?_)))))
          refine wlg 15 16 rfl rfl rfl rfl rfl rfl rfl rfl (wo_run rfl rfl (run_fieldAddr rfl rfl Try.underlying55 rfl (ce4) (nf4)) (wlg 16 17 rfl rfl rfl rfl rfl rfl rfl rfl (wo_run rfl rfl (run_load1 rfl rfl Try.underlying4 rfl (hdcrs.cell S68.um (i := c) (by first | assumption | omega | (simp only [lens]; omega)) 4 rfl rfl)) ?_)))
          refine wlg 17 18 rfl rfl rfl rfl rfl rfl rfl rfl (wo_run rfl rfl (run_not rfl rfl) (wlg 18 19 rfl rfl rfl rfl rfl rfl rfl rfl (wo_run rfl rfl (run_move rfl rfl) ?_)))
          refine wl_split (t := 157) rfl (fun hg157 => ?_) (fun hg157 => ?_)
          ·simp only [Bool.and_eq_true, Bool.or_eq_true, Bool.and_eq_false_iff, Bool.or_eq_false_iff, decide_eq_true_eq, decide_eq_false_iff_not, Bool.not_eq_true', Bool.not_eq_false'] at hg157
           refine wlg 19 20 rfl rfl rfl rfl rfl rfl rfl rfl (wo_run rfl rfl (run_move rfl rfl) (wlg 20 21 rfl rfl rfl rfl rfl rfl rfl rfl (wo_run rfl rfl (run_eql rfl rfl rfl) (wlg 21 22 rfl rfl rfl rfl rfl rfl rfl rfl (wo_run rfl rfl (run_pickT rfl rfl rfl) (wlo 22 23 rfl rfl rfl (wo_run rfl rfl (run_pickF rfl rfl rfl) (wl_end rfl ?_))))))))
           refine nmk [1, 2, 6, 7, 8, 11, 13, 14, 17, 161] rfl (nm_thn ?_)
           refine ws_condN GoeritzOf_n88 GoeritzOf_n89 rfl rfl rfl rfl (fun hb161 => ?_) (fun hb161 => ?_)
           ·replace hb161 := of_decide_eq_true hb161
            refine ws_region rfl (wlm 0 1 rfl rfl rfl rfl rfl rfl rfl (wlm 1 2 rfl rfl rfl rfl rfl rfl rfl (wlo 2 3 rfl rfl rfl (wo_run rfl rfl (run_addW rfl rfl rfl) (wla 3 4 rfl rfl rfl rfl rfl rfl rfl ?_)))))
            refine wl_end rfl (nm_blk (nmk [1, 2, 6, 7, 8, 11, 13, 14] rfl (nm_thn (ws_eq 13 (.int .i64 (gX d sd (c + 1))) rfl (int_eq (by rw [gX, hgw]; first | (rw [if_pos (by first | (rw [hg145]; done) | (rw [hg145]; decide))]; done) | (rw [if_neg (by rw [hg145]; decide)]; done))) ?_))))
            refine ws_region rfl (wlm 0 1 rfl rfl rfl rfl rfl rfl rfl (wlo 1 2 rfl rfl rfl (wo_run rfl rfl (run_add rfl rfl rfl (by first | assumption | omega | (simp only [lens]; omega))) ?_)))
            refine wla 2 3 rfl rfl rfl rfl rfl rfl rfl (wl_end rfl (nm_lp ?_))
            intro ax_ hax_
            refine ⟨_, ?hq8m, ⟨c + 1, _, _, _, rfl, hax_.sub ⟨rfl, rfl, rfl, rfl, rfl, rfl, rfl, rfl, trivial⟩, S68.pick [0, 1, 2, 3] [_, _, _, _] (by decide) ⟨rfl, rfl, rfl, rfl, trivial⟩, ?hq8f0, ?hq8f1, ?hq8f2⟩⟩
            case hq8f0 => omega
            case hq8f1 => assumption
            case hq8f2 => (rw [htq4, heq_4, heq_3, heq_2, heq_1, gE_ne (by rw [← hgi0, ← hgj0]; exact hij), hgw, ← hgi0, ← hgj0]; rfl)
            case hq8m => omega
           ·replace hb161 := of_decide_eq_false hb161
            exfalso; omega
          ·simp only [Bool.and_eq_true, Bool.or_eq_true, Bool.and_eq_false_iff, Bool.or_eq_false_iff, decide_eq_true_eq, decide_eq_false_iff_not, Bool.not_eq_true', Bool.not_eq_false'] at hg157
           exfalso; exact absurd (hg145.symm.trans hg157) (by decide)
        ·replace hb90 := of_decide_eq_false hb90
         have hij : gi = gj := by rw [hI, hJ]; exact congrArg (gnum d sd) (Int.ofNat.inj (Classical.not_not.1 hb90))
         refine ws_skip rfl (nmk [1, 2, 6, 7, 8, 11, 13, 14, 17] rfl (nm_thn (ws_seqN GoeritzOf_n86 GoeritzOf_n87 rfl rfl rfl (ws_region rfl ?_))))
         refine wlo 0 1 rfl rfl rfl (wo_run rfl rfl (run_fieldAddr rfl rfl Try.underlying24 rfl (ce22) (nf22)) (wlo 1 2 rfl rfl rfl (wo_run rfl rfl (run_load1 rfl rfl Try.underlying22 rfl (S53.boxc (i := 3) rfl rfl)) (wlm 2 3 rfl rfl rfl rfl rfl rfl rfl (wlo 3 4 rfl rfl rfl (wo_run rfl rfl (run_indexM (C := cdCr) c rfl rfl rfl sl22 (by first | rfl | omega) hdcrs (by first | assumption | omega | (simp only [lens]; omega))) ?_))))))
         refine wlo 4 5 rfl rfl rfl (wo_run rfl rfl (run_fieldAddr rfl rfl Try.underlying55 rfl (ce4) (nf4)) (wlo 5 6 rfl rfl rfl (wo_run rfl rfl (run_load1 rfl rfl Try.underlying4 rfl (hdcrs.cell S53.um (i := c) (by first | assumption | omega | (simp only [lens]; omega)) 4 rfl rfl)) ?_)))
         refine wlm 6 7 rfl rfl rfl rfl rfl rfl rfl ?_
         refine wl_split (t := 145) rfl (fun hg145 => ?_) (fun hg145 => ?_)
         ·refine wlg 7 8 rfl rfl rfl rfl rfl rfl rfl rfl (wo_run rfl rfl (run_move rfl rfl) (wlg 8 9 rfl rfl rfl rfl rfl rfl rfl rfl (wo_run rfl rfl (run_eql rfl rfl rfl) (wlo 9 10 rfl rfl rfl (wo_run rfl rfl (run_pickT rfl rfl rfl) (wlm 10 11 rfl rfl rfl rfl rfl rfl rfl ?_))))))
          refine wl_split (t := 149) rfl (fun hg149 => ?_) (fun hg149 => ?_)
          ·replace hg149 := of_decide_eq_true hg149
           exfalso; omega
          ·replace hg149 := of_decide_eq_false hg149
           refine wlg 11 12 rfl rfl rfl rfl rfl rfl rfl rfl (wo_run rfl rfl (run_fieldAddr rfl rfl Try.underlying24 rfl (ce22) (nf22)) (wlg 12 13 rfl rfl rfl rfl rfl rfl rfl rfl (wo_run rfl rfl (run_load1 rfl rfl Try.underlying22 rfl (S53.boxc (i := 3) rfl rfl)) (wlg 13 14 rfl rfl rfl rfl rfl rfl rfl rfl (wo_run rfl rfl (run_move rfl rfl) (wlg 14 15 rfl rfl rfl rfl rfl rfl rfl rfl (wo_run rfl rfl (run_indexM (C := cdCr) c rfl rfl rfl sl22 (by first | rfl | omega) hdcrs (by first | assumption | omega | (simp only [lens]; omega))) ?_)))))))
           refine wlg 15 16 rfl rfl rfl rfl rfl rfl rfl rfl (wo_run rfl rfl (run_fieldAddr rfl rfl Try.underlying55 rfl (ce4) (nf4)) (wlg 16 17 rfl rfl rfl rfl rfl rfl rfl rfl (wo_run rfl rfl (run_load1 rfl rfl Try.underlying4 rfl (hdcrs.cell S53.um (i := c) (by first | assumption | omega | (simp only [lens]; omega)) 4 rfl rfl)) ?_)))
           refine wlg 17 18 rfl rfl rfl rfl rfl rfl rfl rfl (wo_run rfl rfl (run_not rfl rfl) (wlg 18 19 rfl rfl rfl rfl rfl rfl rfl rfl (wo_run rfl rfl (run_move rfl rfl) ?_)))
           refine wl_split (t := 157) rfl (fun hg157 => ?_) (fun hg157 => ?_)
           ·simp only [Bool.and_eq_true, Bool.or_eq_true, Bool.and_eq_false_iff, Bool.or_eq_false_iff, decide_eq_true_eq, decide_eq_false_iff_not, Bool.not_eq_true', Bool.not_eq_false'] at hg157
            exfalso; exact absurd (hg145.symm.trans hg157) (by decide)
           ·simp only [Bool.and_eq_true, Bool.or_eq_true, Bool.and_eq_false_iff, Bool.or_eq_false_iff, decide_eq_true_eq, decide_eq_false_iff_not, Bool.not_eq_true', Bool.not_eq_false'] at hg157
            refine wln 19 20 rfl rfl rfl rfl rfl rfl rfl rfl rfl (wln 20 21 rfl rfl rfl rfl rfl rfl rfl rfl rfl (wlg 21 22 rfl rfl rfl rfl rfl rfl rfl rfl (wo_run rfl rfl (run_pickF rfl rfl rfl) (wlo 22 23 rfl rfl rfl (wo_run rfl rfl (run_pickF rfl rfl rfl) (wl_end rfl ?_))))))
            refine nmk [1, 2, 6, 7, 8, 11, 13, 14, 17, 161] rfl (nm_thn (ws_condFN GoeritzOf_n89 rfl rfl rfl (ws_skip rfl (nm_blk ?_))))
            refine nmk [1, 2, 6, 7, 8, 11, 13, 14] rfl (nm_thn (ws_eq 13 (.int .i64 (gX d sd (c + 1))) rfl (int_eq (by rw [gX, hgw]; first | (rw [if_pos (by first | (rw [hg145]; done) | (rw [hg145]; decide))]; done) | (rw [if_neg (by rw [hg145]; decide)]; done))) ?_))
            refine ws_region rfl (wlm 0 1 rfl rfl rfl rfl rfl rfl rfl (wlo 1 2 rfl rfl rfl (wo_run rfl rfl (run_add rfl rfl rfl (by first | assumption | omega | (simp only [lens]; omega))) ?_)))
            refine wla 2 3 rfl rfl rfl rfl rfl rfl rfl (wl_end rfl (nm_lp ?_))
            intro ax_ hax_
            refine ⟨_, ?hq9m, ⟨c + 1, _, _, _, rfl, hax_.sub ⟨rfl, rfl, rfl, rfl, rfl, rfl, rfl, rfl, trivial⟩, S53.pick [0, 1, 2, 3] [_, _, _, _] (by decide) ⟨rfl, rfl, rfl, rfl, trivial⟩, ?hq9f0, ?hq9f1, ?hq9f2⟩⟩
            case hq9f0 => omega
            case hq9f1 => assumption
            case hq9f2 => (rw [gE_eq (by rw [← hgi0, ← hgj0]; exact hij)]; exact htb)
            case hq9m => omega
         ·refine wln 7 8 rfl rfl rfl rfl rfl rfl rfl rfl rfl (wln 8 9 rfl rfl rfl rfl rfl rfl rfl rfl rfl (wlo 9 10 rfl rfl rfl (wo_run rfl rfl (run_pickF rfl rfl rfl) (wlm 10 11 rfl rfl rfl rfl rfl rfl rfl (wlg 11 12 rfl rfl rfl rfl rfl rfl rfl rfl (wo_run rfl rfl (run_fieldAddr rfl rfl Try.underlying24 rfl (ce22) (nf22)) ?_))))))
          refine wlg 12 13 rfl rfl rfl rfl rfl rfl rfl rfl (wo_run rfl rfl (run_load1 rfl rfl Try.underlying22 rfl (S53.boxc (i := 3) rfl rfl)) (wlg 13 14 rfl rfl rfl rfl rfl rfl rfl rfl (wo_run rfl rfl (run_move rfl rfl) (wlg 14 15 rfl rfl rfl rfl rfl rfl rfl rfl (wo_run rfl rfl (run_indexM (C := cdCr) c rfl rfl rfl sl22 (by first | rfl | omega) hdcrs (by first | assumption | omega | (simp only [lens]; omega))) ?_)))))
          refine wlg 15 16 rfl rfl rfl rfl rfl rfl rfl rfl (wo_run rfl rfl (run_fieldAddr rfl rfl Try.underlying55 rfl (ce4) (nf4)) (wlg 16 17 rfl rfl rfl rfl rfl rfl rfl rfl (wo_run rfl rfl (run_load1 rfl rfl Try.underlying4 rfl (hdcrs.cell S53.um (i := c) (by first | assumption | omega | (simp only [lens]; omega)) 4 rfl rfl)) ?_)))
          refine wlg 17 18 rfl rfl rfl rfl rfl rfl rfl rfl (wo_run rfl rfl (run_not rfl rfl) (wlg 18 19 rfl rfl rfl rfl rfl rfl rfl rfl (wo_run rfl rfl (run_move rfl rfl) ?_)))
          refine wl_split (t := 157) rfl (fun hg157 => ?_) (fun hg157 => ?_)
          ·simp only [Bool.and_eq_true, Bool.or_eq_true, Bool.and_eq_false_iff, Bool.or_eq_false_iff, decide_eq_true_eq, decide_eq_false_iff_not, Bool.not_eq_true', Bool.not_eq_false'] at hg157
           refine wlg 19 20 rfl rfl rfl rfl rfl rfl rfl rfl (wo_run rfl rfl (run_move rfl rfl) (wlg 20 21 rfl rfl rfl rfl rfl rfl rfl rfl (wo_run rfl rfl (run_eql rfl rfl rfl) (wlg 21 22 rfl rfl rfl rfl rfl rfl rfl rfl (wo_run rfl rfl (run_pickT rfl rfl rfl) (wlo 22 23 rfl rfl rfl (wo_run rfl rfl (run_pickF rfl rfl rfl) (wl_end rfl ?_))))))))
           refine nmk [1, 2, 6, 7, 8, 11, 13, 14, 17, 161] rfl (nm_thn ?_)
           refine ws_condN GoeritzOf_n88 GoeritzOf_n89 rfl rfl rfl rfl (fun hb161 => ?_) (fun hb161 => ?_)
           ·replace hb161 := of_decide_eq_true hb161
            refine ws_region rfl (wlm 0 1 rfl rfl rfl rfl rfl rfl rfl (wlm 1 2 rfl rfl rfl rfl rfl rfl rfl (wlo 2 3 rfl rfl rfl (wo_run rfl rfl (run_addW rfl rfl rfl) (wla 3 4 rfl rfl rfl rfl rfl rfl rfl ?_)))))
            refine wl_end rfl (nm_blk (nmk [1, 2, 6, 7, 8, 11, 13, 14] rfl (nm_thn (ws_eq 13 (.int .i64 (gX d sd (c + 1))) rfl (int_eq (by rw [gX, hgw]; first | (rw [if_pos (by first | (rw [hg145]; done) | (rw [hg145]; decide))]; done) | (rw [if_neg (by rw [hg145]; decide)]; done))) ?_))))
            refine ws_region rfl (wlm 0 1 rfl rfl rfl rfl rfl rfl rfl (wlo 1 2 rfl rfl rfl (wo_run rfl rfl (run_add rfl rfl rfl (by first | assumption | omega | (simp only [lens]; omega))) ?_)))
            refine wla 2 3 rfl rfl rfl rfl rfl rfl rfl (wl_end rfl (nm_lp ?_))
            intro ax_ hax_
            refine ⟨_, ?hq10m, ⟨c + 1, _, _, _, rfl, hax_.sub ⟨rfl, rfl, rfl, rfl, rfl, rfl, rfl, rfl, trivial⟩, S53.pick [0, 1, 2, 3] [_, _, _, _] (by decide) ⟨rfl, rfl, rfl, rfl, trivial⟩, ?hq10f0, ?hq10f1, ?hq10f2⟩⟩
            case hq10f0 => omega
            case hq10f1 => assumption
            case hq10f2 => (rw [gE_eq (by rw [← hgi0, ← hgj0]; exact hij)]; exact htb)
            case hq10m => omega
           ·replace hb161 := of_decide_eq_false hb161
            exfalso; omega
          ·simp only [Bool.and_eq_true, Bool.or_eq_true, Bool.and_eq_false_iff, Bool.or_eq_false_iff, decide_eq_true_eq, decide_eq_false_iff_not, Bool.not_eq_true', Bool.not_eq_false'] at hg157
           exfalso; exact absurd (hg145.symm.trans hg157) (by decide)
       ·replace hb77 := of_decide_eq_false hb77
        replace hb77 : ga (shL d) (fcJ d (4 * c + 0)) = sd := Classical.not_not.1 hb77
        rw [shL_ga hf0] at hb77
        obtain ⟨gi, hgi0⟩ : ∃ x, x = gI d sd c := ⟨_, rfl⟩
        obtain ⟨gj, hgj0⟩ : ∃ x, x = gJ d sd c := ⟨_, rfl⟩
        obtain ⟨hI, hJ, hgw, hs2, hgi, hgj⟩ := g_yes hS (by omega) hb77
        rw [← hgi0] at hI hgi
        rw [← hgj0] at hJ hgj
        have hs1 := hb77
        have hx1 := numP_ga (d := d) (s := sd) (Nat.le_refl _) hf0 hs1
        have hx2 := numP_ga (d := d) (s := sd) (Nat.le_refl _) hf2 hs2
        refine ws_skip rfl (nmk [1, 2, 6, 7, 8, 11, 13, 14, 15, 16, 17] rfl (nm_thn (ws_seqN GoeritzOf_n72 GoeritzOf_n73 rfl rfl rfl (ws_seqN GoeritzOf_n74 GoeritzOf_n75 rfl rfl rfl ?_))))
        refine ws_region rfl (wlm 0 1 rfl rfl rfl rfl rfl rfl rfl (wlm 1 2 rfl rfl rfl rfl rfl rfl rfl (wlo 2 3 rfl rfl rfl (wo_run rfl rfl (run_neq rfl rfl rfl) (wl_end rfl ?_)))))
        refine nmk [1, 2, 6, 7, 8, 11, 13, 14, 15, 16, 17, 90] rfl (nm_thn ?_)
        refine ws_condN GoeritzOf_n76 GoeritzOf_n77 rfl rfl rfl rfl (fun hb90 => ?_) (fun hb90 => ?_)
        ·replace hb90 := of_decide_eq_true hb90
         have hij : ¬ gi = gj := fun e9 => hb90 (by rw [hI, hJ] at e9; exact congrArg Nat.cast (gnum_inj hs1 hs2 e9))
         refine ws_seqN GoeritzOf_n78 GoeritzOf_n79 rfl rfl rfl (ws_draw rfl (by kernel_rfl) S39 10 rfl ?_)
         clear S39
         refine wap 0 9 rfl (by kernel_rfl) rfl rfl rfl (fun w65 => run_move rfl rfl) ?_
         refine wap 1 8 rfl (by kernel_rfl) rfl rfl rfl (fun w66 => run_move rfl rfl) ?_
         refine wat 2 7 rfl (by kernel_rfl) rfl rfl rfl (fun M48 N46 w67 hle51 S71 => .inl (run_indexR (C := cdInt) (i := 2) (fcJ d (4 * c + 0)) rfl rfl rfl sl25 S71.suf rfl (by first | rfl | omega) (by first | assumption | omega | (simp only [lens]; omega)))) ?_
         refine wat 3 6 rfl (by kernel_rfl) rfl rfl rfl (fun M49 N47 w68 hle52 S72 => .inl (run_load1 rfl rfl Try.underlying3 rfl (S72.suf.rowc (i := 2) (e := fcJ d (4 * c + 0)) (j := 0) rfl (by first | assumption | omega | (simp only [lens]; omega)) rfl rfl))) ?_
         refine wap 4 5 rfl (by kernel_rfl) rfl rfl rfl (fun w69 => run_move rfl rfl) ?_
         refine wap 5 4 rfl (by kernel_rfl) rfl rfl rfl (fun w70 => run_move rfl rfl) ?_
         refine wat 6 3 rfl (by kernel_rfl) rfl rfl rfl (fun M52 N50 w71 hle55 S75 => .inl (run_indexR (C := cdInt) (i := 2) (fcJ d (4 * c + 2)) rfl rfl rfl sl25 S75.suf rfl (by first | rfl | omega) (by first | assumption | omega | (simp only [lens]; omega)))) ?_
         refine wat 7 2 rfl (by kernel_rfl) rfl rfl rfl (fun M53 N51 w72 hle56 S76 => .inl (run_load1 rfl rfl Try.underlying3 rfl (S76.suf.rowc (i := 2) (e := fcJ d (4 * c + 2)) (j := 0) rfl (by first | assumption | omega | (simp only [lens]; omega)) rfl rfl))) ?_
         refine wap 8 1 rfl (by kernel_rfl) rfl rfl rfl (fun w73 => run_assign rfl rfl) ?_
         refine wap 9 0 rfl (by kernel_rfl) rfl rfl rfl (fun w74 => run_assign rfl rfl) ?_
         refine wa_end (by kernel_rfl) (fun w75 S79 => ?_)
         refine nmk [1, 2, 6, 7, 8, 11, 13, 14, 17, 18, 19] rfl (nm_thn (ws_seqN GoeritzOf_n80 GoeritzOf_n81 rfl rfl rfl (ws_eq 18 (.int .i64 ((gi : Nat) : Int)) rfl (int_eq (by rw [hx1, hI])) ?_)))
         refine ws_eq 19 (.int .i64 ((gj : Nat) : Int)) rfl (int_eq (by rw [hx2, hJ])) ?_
         have hvi := Nat.lt_of_lt_of_eq hgi hvl.symm
         have hvj := Nat.lt_of_lt_of_eq hgj hvl.symm
         clear hx1 hx2 hf0 hf1 hf2 hf3 hs1 hs2 hI hJ hpl hb77 hb90
         have htl25 : gi < tb.length := by rw [htb, tbl_len]; exact hgi
         have htl26 : gi < (ga tb gi).length := by rw [htb, tbl_rlen _ hgi]; exact hgi
         have htl27 : gi < (ga tb gj).length := by rw [htb, tbl_rlen _ hgj]; exact hgi
         have htl28 : gj < tb.length := by rw [htb, tbl_len]; exact hgj
         have htl29 : gj < (ga tb gi).length := by rw [htb, tbl_rlen _ hgi]; exact hgj
         have htl30 : gj < (ga tb gj).length := by rw [htb, tbl_rlen _ hgj]; exact hgj
         refine ws_region rfl (wlm 0 1 rfl rfl rfl rfl rfl rfl rfl (wlm 1 2 rfl rfl rfl rfl rfl rfl rfl (wlo 2 3 rfl rfl rfl (wo_run rfl rfl (run_indexR (C := (cdV 25)) (i := 0) gi rfl rfl rfl sl30 S79 rfl (by first | rfl | omega) (by first | assumption | omega | (simp only [lens]; omega))) ?_))))
         refine wlo 3 4 rfl rfl rfl (wo_run rfl rfl (run_load1 rfl rfl Try.underlying25 rfl (S79.rowc (i := 0) (e := gi) (j := 0) rfl (by first | assumption | omega | (simp only [lens]; omega)) rfl rfl)) ?_)
         refine wlm 4 5 rfl rfl rfl rfl rfl rfl rfl (wlo 5 6 rfl rfl rfl (wo_run rfl rfl (run_indexT (C := cdInt) (vs := vs) (xss := tb) (i := 1) gi gj rfl rfl rfl rfl sl25 S79 rfl (by first | assumption | omega | (simp only [lens]; omega) | (rw [ga_set _ _ _ _ (by first | omega | (simp only [List.length_set]; omega)), if_pos rfl]; simp only [List.length_set]; omega)) (by first | rfl | omega) (by first | assumption | omega | (simp only [lens]; omega) | (rw [ga_set _ _ _ _ (by first | omega | (simp only [List.length_set]; omega)), if_pos rfl]; simp only [List.length_set]; omega))) ?_))
         refine wlo 6 7 rfl rfl rfl (wo_run rfl rfl (run_load1 rfl rfl Try.underlying3 rfl (S79.tabc (i := 1) (k := gi) (e := gj) (j := 0) rfl (by first | assumption | omega | (simp only [lens]; omega) | (rw [ga_set _ _ _ _ (by first | omega | (simp only [List.length_set]; omega)), if_pos rfl]; simp only [List.length_set]; omega)) (by first | assumption | omega | (simp only [lens]; omega) | (rw [ga_set _ _ _ _ (by first | omega | (simp only [List.length_set]; omega)), if_pos rfl]; simp only [List.length_set]; omega)) rfl rfl)) ?_)
         refine wlm 7 8 rfl rfl rfl rfl rfl rfl rfl (wlo 8 9 rfl rfl rfl (wo_run rfl rfl (run_subW rfl rfl rfl) (wlo 9 10 rfl rfl rfl (wo_run rfl rfl (run_indexT (C := cdInt) (vs := vs) (xss := tb) (i := 1) gi gj rfl rfl rfl rfl sl25 S79 rfl (by first | assumption | omega | (simp only [lens]; omega) | (rw [ga_set _ _ _ _ (by first | omega | (simp only [List.length_set]; omega)), if_pos rfl]; simp only [List.length_set]; omega)) (by first | rfl | omega) (by first | assumption | omega | (simp only [lens]; omega) | (rw [ga_set _ _ _ _ (by first | omega | (simp only [List.length_set]; omega)), if_pos rfl]; simp only [List.length_set]; omega))) ?_))))
         refine wlo 10 11 rfl rfl rfl (wo_storeT (C := cdInt) (vs := vs) (xss := tb) (i := 1) (k := gi) (e := gj) (j := 0) (us := [_]) (H' := [_, _, _, _]) (wr ((ga (ga tb gi) gj) - (-1))) rfl rfl S79 rfl (by first | assumption | omega | (simp only [lens]; omega) | (rw [ga_set _ _ _ _ (by first | omega | (simp only [List.length_set]; omega)), if_pos rfl]; simp only [List.length_set]; omega)) (by first | assumption | omega | (simp only [lens]; omega) | (rw [ga_set _ _ _ _ (by first | omega | (simp only [List.length_set]; omega)), if_pos rfl]; simp only [List.length_set]; omega)) rfl rfl rfl sz3 rfl rfl rfl rfl ?_)
         intro w76 S80; clear S79
         refine wl_end rfl (nmk [1, 2, 6, 7, 8, 11, 13, 14, 17, 18, 19] rfl (nm_thn (ws_seqN GoeritzOf_n82 GoeritzOf_n83 rfl rfl rfl ?_)))
         obtain ⟨tq5, eq_5, htq5, heq_5, hsq5⟩ : ∃ t E, t = tbl (gm d sd) E ∧ E = upS (gE d sd c) gi gj (-1) ∧ tb.set gi ((ga tb gi).set gj (wr ((ga (ga tb gi) gj) - (-1)))) = t := ⟨_, _, rfl, rfl, by rw [htb]; exact tbl_upS (gE d sd c) hgi hgj⟩
         rw [hsq5] at S80; clear hsq5
         have htl31 : gi < tq5.length := by rw [htq5, tbl_len]; exact hgi
         have htl32 : gi < (ga tq5 gi).length := by rw [htq5, tbl_rlen _ hgi]; exact hgi
         have htl33 : gi < (ga tq5 gj).length := by rw [htq5, tbl_rlen _ hgj]; exact hgi
         have htl34 : gj < tq5.length := by rw [htq5, tbl_len]; exact hgj
         have htl35 : gj < (ga tq5 gi).length := by rw [htq5, tbl_rlen _ hgi]; exact hgj
         have htl36 : gj < (ga tq5 gj).length := by rw [htq5, tbl_rlen _ hgj]; exact hgj
         refine ws_region rfl (wlm 0 1 rfl rfl rfl rfl rfl rfl rfl (wlm 1 2 rfl rfl rfl rfl rfl rfl rfl (wlo 2 3 rfl rfl rfl (wo_run rfl rfl (run_indexR (C := (cdV 25)) (i := 0) gj rfl rfl rfl sl30 S80 rfl (by first | rfl | omega) (by first | assumption | omega | (simp only [lens]; omega))) ?_))))
         refine wlo 3 4 rfl rfl rfl (wo_run rfl rfl (run_load1 rfl rfl Try.underlying25 rfl (S80.rowc (i := 0) (e := gj) (j := 0) rfl (by first | assumption | omega | (simp only [lens]; omega)) rfl rfl)) ?_)
         refine wlm 4 5 rfl rfl rfl rfl rfl rfl rfl (wlo 5 6 rfl rfl rfl (wo_run rfl rfl (run_indexT (C := cdInt) (vs := vs) (xss := tq5) (i := 1) gj gi rfl rfl rfl rfl sl25 S80 rfl (by first | assumption | omega | (simp only [lens]; omega) | (rw [ga_set _ _ _ _ (by first | omega | (simp only [List.length_set]; omega)), if_pos rfl]; simp only [List.length_set]; omega)) (by first | rfl | omega) (by first | assumption | omega | (simp only [lens]; omega) | (rw [ga_set _ _ _ _ (by first | omega | (simp only [List.length_set]; omega)), if_pos rfl]; simp only [List.length_set]; omega))) ?_))
         refine wlo 6 7 rfl rfl rfl (wo_run rfl rfl (run_load1 rfl rfl Try.underlying3 rfl (S80.tabc (i := 1) (k := gj) (e := gi) (j := 0) rfl (by first | assumption | omega | (simp only [lens]; omega) | (rw [ga_set _ _ _ _ (by first | omega | (simp only [List.length_set]; omega)), if_pos rfl]; simp only [List.length_set]; omega)) (by first | assumption | omega | (simp only [lens]; omega) | (rw [ga_set _ _ _ _ (by first | omega | (simp only [List.length_set]; omega)), if_pos rfl]; simp only [List.length_set]; omega)) rfl rfl)) ?_)
         refine wlm 7 8 rfl rfl rfl rfl rfl rfl rfl (wlo 8 9 rfl rfl rfl (wo_run rfl rfl (run_subW rfl rfl rfl) (wlo 9 10 rfl rfl rfl (wo_run rfl rfl (run_indexT (C := cdInt) (vs := vs) (xss := tq5) (i := 1) gj gi rfl rfl rfl rfl sl25 S80 rfl (by first | assumption | omega | (simp only [lens]; omega) | (rw [ga_set _ _ _ _ (by first | omega | (simp only [List.length_set]; omega)), if_pos rfl]; simp only [List.length_set]; omega)) (by first | rfl | omega) (by first | assumption | omega | (simp only [lens]; omega) | (rw [ga_set _ _ _ _ (by first | omega | (simp only [List.length_set]; omega)), if_pos rfl]; simp only [List.length_set]; omega))) ?_))))
         refine wlo 10 11 rfl rfl rfl (wo_storeT (C := cdInt) (vs := vs) (xss := tq5) (i := 1) (k := gj) (e := gi) (j := 0) (us := [_]) (H' := [_, _, _, _]) (wr ((ga (ga tq5 gj) gi) - (-1))) rfl rfl S80 rfl (by first | assumption | omega | (simp only [lens]; omega) | (rw [ga_set _ _ _ _ (by first | omega | (simp only [List.length_set]; omega)), if_pos rfl]; simp only [List.length_set]; omega)) (by first | assumption | omega | (simp only [lens]; omega) | (rw [ga_set _ _ _ _ (by first | omega | (simp only [List.length_set]; omega)), if_pos rfl]; simp only [List.length_set]; omega)) rfl rfl rfl sz3 rfl rfl rfl rfl ?_)
         intro w77 S81; clear S80
         refine wl_end rfl (nmk [1, 2, 6, 7, 8, 11, 13, 14, 17, 18, 19] rfl (nm_thn (ws_seqN GoeritzOf_n84 GoeritzOf_n85 rfl rfl rfl ?_)))
         obtain ⟨tq6, eq_6, htq6, heq_6, hsq6⟩ : ∃ t E, t = tbl (gm d sd) E ∧ E = upS eq_5 gj gi (-1) ∧ tq5.set gj ((ga tq5 gj).set gi (wr ((ga (ga tq5 gj) gi) - (-1)))) = t := ⟨_, _, rfl, rfl, by rw [htq5]; exact tbl_upS eq_5 hgj hgi⟩
         rw [hsq6] at S81; clear hsq6
         have htl37 : gi < tq6.length := by rw [htq6, tbl_len]; exact hgi
         have htl38 : gi < (ga tq6 gi).length := by rw [htq6, tbl_rlen _ hgi]; exact hgi
         have htl39 : gi < (ga tq6 gj).length := by rw [htq6, tbl_rlen _ hgj]; exact hgi
         have htl40 : gj < tq6.length := by rw [htq6, tbl_len]; exact hgj
         have htl41 : gj < (ga tq6 gi).length := by rw [htq6, tbl_rlen _ hgi]; exact hgj
         have htl42 : gj < (ga tq6 gj).length := by rw [htq6, tbl_rlen _ hgj]; exact hgj
         refine ws_region rfl (wlm 0 1 rfl rfl rfl rfl rfl rfl rfl (wlm 1 2 rfl rfl rfl rfl rfl rfl rfl (wlo 2 3 rfl rfl rfl (wo_run rfl rfl (run_indexR (C := (cdV 25)) (i := 0) gi rfl rfl rfl sl30 S81 rfl (by first | rfl | omega) (by first | assumption | omega | (simp only [lens]; omega))) ?_))))
         refine wlo 3 4 rfl rfl rfl (wo_run rfl rfl (run_load1 rfl rfl Try.underlying25 rfl (S81.rowc (i := 0) (e := gi) (j := 0) rfl (by first | assumption | omega | (simp only [lens]; omega)) rfl rfl)) ?_)
         refine wlm 4 5 rfl rfl rfl rfl rfl rfl rfl (wlo 5 6 rfl rfl rfl (wo_run rfl rfl (run_indexT (C := cdInt) (vs := vs) (xss := tq6) (i := 1) gi gi rfl rfl rfl rfl sl25 S81 rfl (by first | assumption | omega | (simp only [lens]; omega) | (rw [ga_set _ _ _ _ (by first | omega | (simp only [List.length_set]; omega)), if_pos rfl]; simp only [List.length_set]; omega)) (by first | rfl | omega) (by first | assumption | omega | (simp only [lens]; omega) | (rw [ga_set _ _ _ _ (by first | omega | (simp only [List.length_set]; omega)), if_pos rfl]; simp only [List.length_set]; omega))) ?_))
         refine wlo 6 7 rfl rfl rfl (wo_run rfl rfl (run_load1 rfl rfl Try.underlying3 rfl (S81.tabc (i := 1) (k := gi) (e := gi) (j := 0) rfl (by first | assumption | omega | (simp only [lens]; omega) | (rw [ga_set _ _ _ _ (by first | omega | (simp only [List.length_set]; omega)), if_pos rfl]; simp only [List.length_set]; omega)) (by first | assumption | omega | (simp only [lens]; omega) | (rw [ga_set _ _ _ _ (by first | omega | (simp only [List.length_set]; omega)), if_pos rfl]; simp only [List.length_set]; omega)) rfl rfl)) ?_)
         refine wlm 7 8 rfl rfl rfl rfl rfl rfl rfl (wlo 8 9 rfl rfl rfl (wo_run rfl rfl (run_addW rfl rfl rfl) (wlo 9 10 rfl rfl rfl (wo_run rfl rfl (run_indexT (C := cdInt) (vs := vs) (xss := tq6) (i := 1) gi gi rfl rfl rfl rfl sl25 S81 rfl (by first | assumption | omega | (simp only [lens]; omega) | (rw [ga_set _ _ _ _ (by first | omega | (simp only [List.length_set]; omega)), if_pos rfl]; simp only [List.length_set]; omega)) (by first | rfl | omega) (by first | assumption | omega | (simp only [lens]; omega) | (rw [ga_set _ _ _ _ (by first | omega | (simp only [List.length_set]; omega)), if_pos rfl]; simp only [List.length_set]; omega))) ?_))))
         refine wlo 10 11 rfl rfl rfl (wo_storeT (C := cdInt) (vs := vs) (xss := tq6) (i := 1) (k := gi) (e := gi) (j := 0) (us := [_]) (H' := [_, _, _, _]) (wr ((ga (ga tq6 gi) gi) + (-1))) rfl rfl S81 rfl (by first | assumption | omega | (simp only [lens]; omega) | (rw [ga_set _ _ _ _ (by first | omega | (simp only [List.length_set]; omega)), if_pos rfl]; simp only [List.length_set]; omega)) (by first | assumption | omega | (simp only [lens]; omega) | (rw [ga_set _ _ _ _ (by first | omega | (simp only [List.length_set]; omega)), if_pos rfl]; simp only [List.length_set]; omega)) rfl rfl rfl sz3 rfl rfl rfl rfl ?_)
         intro w78 S82; clear S81
         refine wl_end rfl (nmk [1, 2, 6, 7, 8, 11, 13, 14, 17, 19] rfl (nm_thn ?_))
         obtain ⟨tq7, eq_7, htq7, heq_7, hsq7⟩ : ∃ t E, t = tbl (gm d sd) E ∧ E = upA eq_6 gi gi (-1) ∧ tq6.set gi ((ga tq6 gi).set gi (wr ((ga (ga tq6 gi) gi) + (-1)))) = t := ⟨_, _, rfl, rfl, by rw [htq6]; exact tbl_upA eq_6 hgi hgi⟩
         rw [hsq7] at S82; clear hsq7
         have htl43 : gi < tq7.length := by rw [htq7, tbl_len]; exact hgi
         have htl44 : gi < (ga tq7 gi).length := by rw [htq7, tbl_rlen _ hgi]; exact hgi
         have htl45 : gi < (ga tq7 gj).length := by rw [htq7, tbl_rlen _ hgj]; exact hgi
         have htl46 : gj < tq7.length := by rw [htq7, tbl_len]; exact hgj
         have htl47 : gj < (ga tq7 gi).length := by rw [htq7, tbl_rlen _ hgi]; exact hgj
         have htl48 : gj < (ga tq7 gj).length := by rw [htq7, tbl_rlen _ hgj]; exact hgj
         refine ws_region rfl (wlm 0 1 rfl rfl rfl rfl rfl rfl rfl (wlm 1 2 rfl rfl rfl rfl rfl rfl rfl (wlo 2 3 rfl rfl rfl (wo_run rfl rfl (run_indexR (C := (cdV 25)) (i := 0) gj rfl rfl rfl sl30 S82 rfl (by first | rfl | omega) (by first | assumption | omega | (simp only [lens]; omega))) ?_))))
         refine wlo 3 4 rfl rfl rfl (wo_run rfl rfl (run_load1 rfl rfl Try.underlying25 rfl (S82.rowc (i := 0) (e := gj) (j := 0) rfl (by first | assumption | omega | (simp only [lens]; omega)) rfl rfl)) ?_)
         refine wlm 4 5 rfl rfl rfl rfl rfl rfl rfl (wlo 5 6 rfl rfl rfl (wo_run rfl rfl (run_indexT (C := cdInt) (vs := vs) (xss := tq7) (i := 1) gj gj rfl rfl rfl rfl sl25 S82 rfl (by first | assumption | omega | (simp only [lens]; omega) | (rw [ga_set _ _ _ _ (by first | omega | (simp only [List.length_set]; omega)), if_pos rfl]; simp only [List.length_set]; omega)) (by first | rfl | omega) (by first | assumption | omega | (simp only [lens]; omega) | (rw [ga_set _ _ _ _ (by first | omega | (simp only [List.length_set]; omega)), if_pos rfl]; simp only [List.length_set]; omega))) ?_))
         refine wlo 6 7 rfl rfl rfl (wo_run rfl rfl (run_load1 rfl rfl Try.underlying3 rfl (S82.tabc (i := 1) (k := gj) (e := gj) (j := 0) rfl (by first | assumption | omega | (simp only [lens]; omega) | (rw [ga_set _ _ _ _ (by first | omega | (simp only [List.length_set]; omega)), if_pos rfl]; simp only [List.length_set]; omega)) (by first | assumption | omega | (simp only [lens]; omega) | (rw [ga_set _ _ _ _ (by first | omega | (simp only [List.length_set]; omega)), if_pos rfl]; simp only [List.length_set]; omega)) rfl rfl)) ?_)
         refine wlm 7 8 rfl rfl rfl rfl rfl rfl rfl (wlo 8 9 rfl rfl rfl (wo_run rfl rfl (run_addW rfl rfl rfl) (wlo 9 10 rfl rfl rfl (wo_run rfl rfl (run_indexT (C := cdInt) (vs := vs) (xss := tq7) (i := 1) gj gj rfl rfl rfl rfl sl25 S82 rfl (by first | assumption | omega | (simp only [lens]; omega) | (rw [ga_set _ _ _ _ (by first | omega | (simp only [List.length_set]; omega)), if_pos rfl]; simp only [List.length_set]; omega)) (by first | rfl | omega) (by first | assumption | omega | (simp only [lens]; omega) | (rw [ga_set _ _ _ _ (by first | omega | (simp only [List.length_set]; omega)), if_pos rfl]; simp only [List.length_set]; omega))) ?_))))
         refine wlo 10 11 rfl rfl rfl (wo_storeT (C := cdInt) (vs := vs) (xss := tq7) (i := 1) (k := gj) (e := gj) (j := 0) (us := [_]) (H' := [_, _, _, _]) (wr ((ga (ga tq7 gj) gj) + (-1))) rfl rfl S82 rfl (by first | assumption | omega | (simp only [lens]; omega) | (rw [ga_set _ _ _ _ (by first | omega | (simp only [List.length_set]; omega)), if_pos rfl]; simp only [List.length_set]; omega)) (by first | assumption | omega | (simp only [lens]; omega) | (rw [ga_set _ _ _ _ (by first | omega | (simp only [List.length_set]; omega)), if_pos rfl]; simp only [List.length_set]; omega)) rfl rfl rfl sz3 rfl rfl rfl rfl ?_)
         intro w79 S83; clear S82
         refine wl_end rfl (nmk [1, 2, 6, 7, 8, 11, 13, 14, 17] rfl (nm_thn (ws_seqN GoeritzOf_n86 GoeritzOf_n87 rfl rfl rfl ?_)))
         obtain ⟨tq8, eq_8, htq8, heq_8, hsq8⟩ : ∃ t E, t = tbl (gm d sd) E ∧ E = upA eq_7 gj gj (-1) ∧ tq7.set gj ((ga tq7 gj).set gj (wr ((ga (ga tq7 gj) gj) + (-1)))) = t := ⟨_, _, rfl, rfl, by rw [htq7]; exact tbl_upA eq_7 hgj hgj⟩
         rw [hsq8] at S83; clear hsq8
         refine ws_region rfl (wlo 0 1 rfl rfl rfl (wo_run rfl rfl (run_fieldAddr rfl rfl Try.underlying24 rfl (ce22) (nf22)) (wlo 1 2 rfl rfl rfl (wo_run rfl rfl (run_load1 rfl rfl Try.underlying22 rfl (S83.boxc (i := 3) rfl rfl)) (wlm 2 3 rfl rfl rfl rfl rfl rfl rfl (wlo 3 4 rfl rfl rfl (wo_run rfl rfl (run_indexM (C := cdCr) c rfl rfl rfl sl22 (by first | rfl | omega) hdcrs (by first | assumption | omega | (simp only [lens]; omega))) ?_)))))))
         refine wlo 4 5 rfl rfl rfl (wo_run rfl rfl (run_fieldAddr rfl rfl Try.underlying55 rfl (ce4) (nf4)) (wlo 5 6 rfl rfl rfl (wo_run rfl rfl (run_load1 rfl rfl Try.underlying4 rfl (hdcrs.cell S83.um (i := c) (by first | assumption | omega | (simp only [lens]; omega)) 4 rfl rfl)) ?_)))
         refine wlm 6 7 rfl rfl rfl rfl rfl rfl rfl ?_
         refine wl_split (t := 145) rfl (fun hg145 => ?_) (fun hg145 => ?_)
         ·refine wlg 7 8 rfl rfl rfl rfl rfl rfl rfl rfl (wo_run rfl rfl (run_move rfl rfl) (wlg 8 9 rfl rfl rfl rfl rfl rfl rfl rfl (wo_run rfl rfl (run_eql rfl rfl rfl) (wlo 9 10 rfl rfl rfl (wo_run rfl rfl (run_pickT rfl rfl rfl) (wlm 10 11 rfl rfl rfl rfl rfl rfl rfl ?_))))))
          refine wl_split (t := 149) rfl (fun hg149 => ?_) (fun hg149 => ?_)
          ·replace hg149 := of_decide_eq_true hg149
           refine wln 11 12 rfl rfl rfl rfl rfl rfl rfl rfl rfl (wln 12 13 rfl rfl rfl rfl rfl rfl rfl rfl rfl (wln 13 14 rfl rfl rfl rfl rfl rfl rfl rfl rfl (wln 14 15 rfl rfl rfl rfl rfl rfl rfl rfl rfl (wln 15 16 rfl rfl rfl rfl rfl rfl rfl rfl rfl ?_))))
           refine wln 16 17 rfl rfl rfl rfl rfl rfl rfl rfl rfl (wln 17 18 rfl rfl rfl rfl rfl rfl rfl rfl rfl (wln 18 19 rfl rfl rfl rfl rfl rfl rfl rfl rfl (wln 19 20 rfl rfl rfl rfl rfl rfl rfl rfl rfl (wln 20 21 rfl rfl rfl rfl rfl rfl rfl rfl rfl ?_))))
           refine wln 21 22 rfl rfl rfl rfl rfl rfl rfl rfl rfl (wlo 22 23 rfl rfl rfl (wo_run rfl rfl (run_pickT rfl rfl rfl) (wl_end rfl (nmk [1, 2, 6, 7, 8, 11, 13, 14, 17, 161] rfl (nm_thn ?_)))))
           refine ws_condTN GoeritzOf_n88 rfl rfl rfl (ws_region rfl (wlm 0 1 rfl rfl rfl rfl rfl rfl rfl (wlm 1 2 rfl rfl rfl rfl rfl rfl rfl (wlo 2 3 rfl rfl rfl (wo_run rfl rfl (run_addW rfl rfl rfl) ?_)))))
           refine wla 3 4 rfl rfl rfl rfl rfl rfl rfl (wl_end rfl (nm_blk (nmk [1, 2, 6, 7, 8, 11, 13, 14] rfl (nm_thn ?_))))
           refine ws_eq 13 (.int .i64 (gX d sd (c + 1))) rfl (int_eq (by rw [gX, hgw]; first | (rw [if_pos (by first | (rw [hg145]; done) | (rw [hg145]; decide))]; done) | (rw [if_neg (by rw [hg145]; decide)]; done))) ?_
           refine ws_region rfl (wlm 0 1 rfl rfl rfl rfl rfl rfl rfl (wlo 1 2 rfl rfl rfl (wo_run rfl rfl (run_add rfl rfl rfl (by first | assumption | omega | (simp only [lens]; omega))) ?_)))
           refine wla 2 3 rfl rfl rfl rfl rfl rfl rfl (wl_end rfl (nm_lp ?_))
           intro ax_ hax_
           refine ⟨_, ?hq11m, ⟨c + 1, _, _, _, rfl, hax_.sub ⟨rfl, rfl, rfl, rfl, rfl, rfl, rfl, rfl, trivial⟩, S83.pick [0, 1, 2, 3] [_, _, _, _] (by decide) ⟨rfl, rfl, rfl, rfl, trivial⟩, ?hq11f0, ?hq11f1, ?hq11f2⟩⟩
           case hq11f0 => omega
           case hq11f1 => assumption
           case hq11f2 => (rw [htq8, heq_8, heq_7, heq_6, heq_5, gE_ne (by rw [← hgi0, ← hgj0]; exact hij), hgw, ← hgi0, ← hgj0]; rfl)
           case hq11m => omega
          ·replace hg149 := of_decide_eq_false hg149
           exfalso; omega
         ·refine wln 7 8 rfl rfl rfl rfl rfl rfl rfl rfl rfl (wln 8 9 rfl rfl rfl rfl rfl rfl rfl rfl rfl (wlo 9 10 rfl rfl rfl (wo_run rfl rfl (run_pickF rfl rfl rfl) (wlm 10 11 rfl rfl rfl rfl rfl rfl rfl (wlg 11 12 rfl rfl rfl rfl rfl rfl rfl rfl (wo_run rfl rfl (run_fieldAddr rfl rfl Try.underlying24 rfl (ce22) (nf22)) ?_))))))
          refine wlg 12 13 rfl rfl rfl rfl rfl rfl rfl rfl (wo_run rfl rfl (run_load1 rfl rfl Try.underlying22 rfl (S83.boxc (i := 3) rfl rfl)) (wlg 13 14 rfl rfl rfl rfl rfl rfl rfl rfl (wo_run rfl rfl (run_move rfl rfl) (wlg 14 15 rfl rfl rfl rfl rfl rfl rfl rfl (wo_run rfl rfl (run_indexM (C := cdCr) c rfl rfl rfl sl22 (by first | rfl | omega) hdcrs (by first | assumption | omega | (simp only [lens]; omega))) ?_)))))
          refine wlg 15 16 rfl rfl rfl rfl rfl rfl rfl rfl (wo_run rfl rfl (run_fieldAddr rfl rfl Try.underlying55 rfl (ce4) (nf4)) (wlg 16 17 rfl rfl rfl rfl rfl rfl rfl rfl (wo_run rfl rfl (run_load1 rfl rfl Try.underlying4 rfl (hdcrs.cell S83.um (i := c) (by first | assumption | omega | (simp only [lens]; omega)) 4 rfl rfl)) ?_)))
          refine wlg 17 18 rfl rfl rfl rfl rfl rfl rfl rfl (wo_run rfl rfl (run_not rfl rfl) (wlg 18 19 rfl rfl rfl rfl rfl rfl rfl rfl (wo_run rfl rfl (run_move rfl rfl) ?_)))
          refine wl_split (t := 157) rfl (fun hg157 => ?_) (fun hg157 => ?_)
          ·simp only [Bool.and_eq_true, Bool.or_eq_true, Bool.and_eq_false_iff, Bool.or_eq_false_iff, decide_eq_true_eq, decide_eq_false_iff_not, Bool.not_eq_true', Bool.not_eq_false'] at hg157
           refine wlg 19 20 rfl rfl rfl rfl rfl rfl rfl rfl (wo_run rfl rfl (run_move rfl rfl) (wlg 20 21 rfl rfl rfl rfl rfl rfl rfl rfl (wo_run rfl rfl (run_eql rfl rfl rfl) (wlg 21 22 rfl rfl rfl rfl rfl rfl rfl rfl (wo_run rfl rfl (run_pickT rfl rfl rfl) (wlo 22 23 rfl rfl rfl (wo_run rfl rfl (run_pickF rfl rfl rfl) (wl_end rfl ?_))))))))
           refine nmk [1, 2, 6, 7, 8, 11, 13, 14, 17, 161] rfl (nm_thn ?_)
           refine ws_condN GoeritzOf_n88 GoeritzOf_n89 rfl rfl rfl rfl (fun hb161 => ?_) (fun hb161 => ?_)
           ·replace hb161 := of_decide_eq_true hb161
            exfalso; omega
           ·replace hb161 := of_decide_eq_false hb161
            refine ws_skip rfl (nm_blk (nmk [1, 2, 6, 7, 8, 11, 13, 14] rfl (nm_thn (ws_eq 13 (.int .i64 (gX d sd (c + 1))) rfl (int_eq (by rw [gX, hgw]; first | (rw [if_pos (by first | (rw [hg145]; done) | (rw [hg145]; decide))]; done) | (rw [if_neg (by rw [hg145]; decide)]; done))) ?_))))
            refine ws_region rfl (wlm 0 1 rfl rfl rfl rfl rfl rfl rfl (wlo 1 2 rfl rfl rfl (wo_run rfl rfl (run_add rfl rfl rfl (by first | assumption | omega | (simp only [lens]; omega))) ?_)))
            refine wla 2 3 rfl rfl rfl rfl rfl rfl rfl (wl_end rfl (nm_lp ?_))
            intro ax_ hax_
            refine ⟨_, ?hq12m, ⟨c + 1, _, _, _, rfl, hax_.sub ⟨rfl, rfl, rfl, rfl, rfl, rfl, rfl, rfl, trivial⟩, S83.pick [0, 1, 2, 3] [_, _, _, _] (by decide) ⟨rfl, rfl, rfl, rfl, trivial⟩, ?hq12f0, ?hq12f1, ?hq12f2⟩⟩
            case hq12f0 => omega
            case hq12f1 => assumption
            case hq12f2 => (rw [htq8, heq_8, heq_7, heq_6, heq_5, gE_ne (by rw [← hgi0, ← hgj0]; exact hij), hgw, ← hgi0, ← hgj0]; rfl)
            case hq12m => omega
          ·simp only [Bool.and_eq_true, Bool.or_eq_true, Bool.and_eq_false_iff, Bool.or_eq_false_iff, decide_eq_true_eq, decide_eq_false_iff_not, Bool.not_eq_true', Bool.not_eq_false'] at hg157
           exfalso; exact absurd (hg145.symm.trans hg157) (by decide)
        ·replace hb90 := of_decide_eq_false hb90
         have hij : gi = gj := by rw [hI, hJ]; exact congrArg (gnum d sd) (Int.ofNat.inj (Classical.not_not.1 hb90))
         refine ws_skip rfl (nmk [1, 2, 6, 7, 8, 11, 13, 14, 17] rfl (nm_thn (ws_seqN GoeritzOf_n86 GoeritzOf_n87 rfl rfl rfl (ws_region rfl ?_))))
         refine wlo 0 1 rfl rfl rfl (wo_run rfl rfl (run_fieldAddr rfl rfl Try.underlying24 rfl (ce22) (nf22)) (wlo 1 2 rfl rfl rfl (wo_run rfl rfl (run_load1 rfl rfl Try.underlying22 rfl (S39.boxc (i := 3) rfl rfl)) (wlm 2 3 rfl rfl rfl rfl rfl rfl rfl (wlo 3 4 rfl rfl rfl (wo_run rfl rfl (run_indexM (C := cdCr) c rfl rfl rfl sl22 (by first | rfl | omega) hdcrs (by first | assumption | omega | (simp only [lens]; omega))) ?_))))))
         refine wlo 4 5 rfl rfl rfl (wo_run rfl rfl (run_fieldAddr rfl rfl Try.underlying55 rfl (ce4) (nf4)) (wlo 5 6 rfl rfl rfl (wo_run rfl rfl (run_load1 rfl rfl Try.underlying4 rfl (hdcrs.cell S39.um (i := c) (by first | assumption | omega | (simp only [lens]; omega)) 4 rfl rfl)) ?_)))
         refine wlm 6 7 rfl rfl rfl rfl rfl rfl rfl ?_
         refine wl_split (t := 145) rfl (fun hg145 => ?_) (fun hg145 => ?_)
         ·refine wlg 7 8 rfl rfl rfl rfl rfl rfl rfl rfl (wo_run rfl rfl (run_move rfl rfl) (wlg 8 9 rfl rfl rfl rfl rfl rfl rfl rfl (wo_run rfl rfl (run_eql rfl rfl rfl) (wlo 9 10 rfl rfl rfl (wo_run rfl rfl (run_pickT rfl rfl rfl) (wlm 10 11 rfl rfl rfl rfl rfl rfl rfl ?_))))))
          refine wl_split (t := 149) rfl (fun hg149 => ?_) (fun hg149 => ?_)
          ·replace hg149 := of_decide_eq_true hg149
           refine wln 11 12 rfl rfl rfl rfl rfl rfl rfl rfl rfl (wln 12 13 rfl rfl rfl rfl rfl rfl rfl rfl rfl (wln 13 14 rfl rfl rfl rfl rfl rfl rfl rfl rfl (wln 14 15 rfl rfl rfl rfl rfl rfl rfl rfl rfl (wln 15 16 rfl rfl rfl rfl rfl rfl rfl rfl rfl ?_))))
           refine wln 16 17 rfl rfl rfl rfl rfl rfl rfl rfl rfl (wln 17 18 rfl rfl rfl rfl rfl rfl rfl rfl rfl (wln 18 19 rfl rfl rfl rfl rfl rfl rfl rfl rfl (wln 19 20 rfl rfl rfl rfl rfl rfl rfl rfl rfl (wln 20 21 rfl rfl rfl rfl rfl rfl rfl rfl rfl ?_))))
           refine wln 21 22 rfl rfl rfl rfl rfl rfl rfl rfl rfl (wlo 22 23 rfl rfl rfl (wo_run rfl rfl (run_pickT rfl rfl rfl) (wl_end rfl (nmk [1, 2, 6, 7, 8, 11, 13, 14, 17, 161] rfl (nm_thn ?_)))))
           refine ws_condTN GoeritzOf_n88 rfl rfl rfl (ws_region rfl (wlm 0 1 rfl rfl rfl rfl rfl rfl rfl (wlm 1 2 rfl rfl rfl rfl rfl rfl rfl (wlo 2 3 rfl rfl rfl (wo_run rfl rfl (run_addW rfl rfl rfl) ?_)))))
           refine wla 3 4 rfl rfl rfl rfl rfl rfl rfl (wl_end rfl (nm_blk (nmk [1, 2, 6, 7, 8, 11, 13, 14] rfl (nm_thn ?_))))
           refine ws_eq 13 (.int .i64 (gX d sd (c + 1))) rfl (int_eq (by rw [gX, hgw]; first | (rw [if_pos (by first | (rw [hg145]; done) | (rw [hg145]; decide))]; done) | (rw [if_neg (by rw [hg145]; decide)]; done))) ?_
           refine ws_region rfl (wlm 0 1 rfl rfl rfl rfl rfl rfl rfl (wlo 1 2 rfl rfl rfl (wo_run rfl rfl (run_add rfl rfl rfl (by first | assumption | omega | (simp only [lens]; omega))) ?_)))
           refine wla 2 3 rfl rfl rfl rfl rfl rfl rfl (wl_end rfl (nm_lp ?_))
           intro ax_ hax_
           refine ⟨_, ?hq13m, ⟨c + 1, _, _, _, rfl, hax_.sub ⟨rfl, rfl, rfl, rfl, rfl, rfl, rfl, rfl, trivial⟩, S39.pick [0, 1, 2, 3] [_, _, _, _] (by decide) ⟨rfl, rfl, rfl, rfl, trivial⟩, ?hq13f0, ?hq13f1, ?hq13f2⟩⟩
           case hq13f0 => omega
           case hq13f1 => assumption
           case hq13f2 => (rw [gE_eq (by rw [← hgi0, ← hgj0]; exact hij)]; exact htb)
           case hq13m => omega
          ·replace hg149 := of_decide_eq_false hg149
           exfalso; omega
         ·refine wln 7 8 rfl rfl rfl rfl rfl rfl rfl rfl rfl (wln 8 9 rfl rfl rfl rfl rfl rfl rfl rfl rfl (wlo 9 10 rfl rfl rfl (wo_run rfl rfl (run_pickF rfl rfl rfl) (wlm 10 11 rfl rfl rfl rfl rfl rfl rfl (wlg 11 12 rfl rfl rfl rfl rfl rfl rfl rfl (wo_run rfl rfl (run_fieldAddr rfl rfl Try.underlying24 rfl (ce22) (nf22)) ?_))))))
          refine wlg 12 13 rfl rfl rfl rfl rfl rfl rfl rfl (wo_run rfl rfl (run_load1 rfl rfl Try.underlying22 rfl (S39.boxc (i := 3) rfl rfl)) (wlg 13 14 rfl rfl rfl rfl rfl rfl rfl rfl (wo_run rfl rfl (run_move rfl rfl) (wlg 14 15 rfl rfl rfl rfl rfl rfl rfl rfl (wo_run rfl rfl (run_indexM (C := cdCr) c rfl rfl rfl sl22 (by first | rfl | omega) hdcrs (by first | assumption | omega | (simp only [lens]; omega))) ?_)))))
          refine wlg 15 16 rfl rfl rfl rfl rfl rfl rfl rfl (wo_run rfl rfl (run_fieldAddr rfl rfl Try.underlying55 rfl (ce4) (nf4)) (wlg 16 17 rfl rfl rfl rfl rfl rfl rfl rfl (wo_run rfl rfl (run_load1 rfl rfl Try.underlying4 rfl (hdcrs.cell S39.um (i := c) (by first | assumption | omega | (simp only [lens]; omega)) 4 rfl rfl)) ?_)))
          refine wlg 17 18 rfl rfl rfl rfl rfl rfl rfl rfl (wo_run rfl rfl (run_not rfl rfl) (wlg 18 19 rfl rfl rfl rfl rfl rfl rfl rfl (wo_run rfl rfl (run_move rfl rfl) ?_)))
          refine wl_split (t := 157) rfl (fun hg157 => ?_) (fun hg157 => ?_)
          ·simp only [Bool.and_eq_true, Bool.or_eq_true, Bool.and_eq_false_iff, Bool.or_eq_false_iff, decide_eq_true_eq, decide_eq_false_iff_not, Bool.not_eq_true', Bool.not_eq_false'] at hg157
           refine wlg 19 20 rfl rfl rfl rfl rfl rfl rfl rfl (wo_run rfl rfl (run_move rfl rfl) (wlg 20 21 rfl rfl rfl rfl rfl rfl rfl rfl (wo_run rfl rfl (run_eql rfl rfl rfl) (wlg 21 22 rfl rfl rfl rfl rfl rfl rfl rfl (wo_run rfl rfl (run_pickT rfl rfl rfl) (wlo 22 23 rfl rfl rfl (wo_run rfl rfl (run_pickF rfl rfl rfl) (wl_end rfl ?_))))))))
           refine nmk [1, 2, 6, 7, 8, 11, 13, 14, 17, 161] rfl (nm_thn ?_)
           refine ws_condN GoeritzOf_n88 GoeritzOf_n89 rfl rfl rfl rfl (fun hb161 => ?_) (fun hb161 => ?_)
           ·replace hb161 := of_decide_eq_true hb161
            exfalso; omega
           ·replace hb161 := of_decide_eq_false hb161
            refine ws_skip rfl (nm_blk (nmk [1, 2, 6, 7, 8, 11, 13, 14] rfl (nm_thn (ws_eq 13 (.int .i64 (gX d sd (c + 1))) rfl (int_eq (by rw [gX, hgw]; first | (rw [if_pos (by first | (rw [hg145]; done) | (rw [hg145]; decide))]; done) | (rw [if_neg (by rw [hg145]; decide)]; done))) ?_))))
            refine ws_region rfl (wlm 0 1 rfl rfl rfl rfl rfl rfl rfl (wlo 1 2 rfl rfl rfl (wo_run rfl rfl (run_add rfl rfl rfl (by first | assumption | omega | (simp only [lens]; omega))) ?_)))
            refine wla 2 3 rfl rfl rfl rfl rfl rfl rfl (wl_end rfl (nm_lp ?_))
            intro ax_ hax_
            refine ⟨_, ?hq14m, ⟨c + 1, _, _, _, rfl, hax_.sub ⟨rfl, rfl, rfl, rfl, rfl, rfl, rfl, rfl, trivial⟩, S39.pick [0, 1, 2, 3] [_, _, _, _] (by decide) ⟨rfl, rfl, rfl, rfl, trivial⟩, ?hq14f0, ?hq14f1, ?hq14f2⟩⟩
            case hq14f0 => omega
            case hq14f1 => assumption
            case hq14f2 => (rw [gE_eq (by rw [← hgi0, ← hgj0]; exact hij)]; exact htb)
            case hq14m => omega
          ·simp only [Bool.and_eq_true, Bool.or_eq_true, Bool.and_eq_false_iff, Bool.or_eq_false_iff, decide_eq_true_eq, decide_eq_false_iff_not, Bool.not_eq_true', Bool.not_eq_false'] at hg157
           exfalso; exact absurd (hg145.symm.trans hg157) (by decide)
      ·replace hb59 := of_decide_eq_false hb59
       refine ws_exit rfl rfl (nmk [11, 13] rfl (nm_thn (ws_seqN GoeritzOf_n90 GoeritzOf_n91 rfl rfl rfl (ws_region rfl ?_))))
       refine wlm 0 1 rfl rfl rfl rfl rfl rfl rfl (wlm 1 2 rfl rfl rfl rfl rfl rfl rfl (wla 2 3 rfl rfl rfl rfl rfl rfl rfl (wla 3 4 rfl rfl rfl rfl rfl rfl rfl (wl_end rfl ?_))))
       refine nmk [4, 5] rfl (nm_thn ?_)
       obtain rfl : c = d.crs.length := by omega
       have hfin : tb = gzL d sd := htb
       have hroom : ∀ i, i < tb.length → (ga tb i).length * cdInt.u8 ≤ 140737488355328 := by (intro i hi; rw [htb] at hi ⊢; rw [tbl_len] at hi; rw [tbl_rlen _ hi]; show _ * 8 ≤ _; omega)
       obtain ⟨M56, hle59, S84, hd2⟩ := S25.pubtab (i := 1) (H' := [_, _, _, _]) rfl rfl (by assumption)
       clear S25
       replace hdcrs := hdcrs.mono (Hp.un_mono hle59 S84.mx)
       replace hr1 := hr1.mono hle59
       replace hd1 := hd1.mono hle59
       replace hr2 := hr2.mono hle59
       obtain ⟨M57, hle60, S85, ⟨A4, c4, e1, hr3⟩⟩ := S84.pubrow (i := 0) (H' := [_, _, _, _]) rfl rfl (by show _ * 24 ≤ _; first | assumption | omega | (simp only [lens]; omega))
       clear S84; subst e1
       replace hdcrs := hdcrs.mono (Hp.un_mono hle60 S85.mx)
       replace hr1 := hr1.mono hle60
       replace hd1 := hd1.mono hle60
       replace hr2 := hr2.mono hle60
       replace hd2 := hd2.mono hle60
       refine ws_ret hC [_, _] rfl rfl ⟨rfl, rfl, trivial⟩ ?_
       refine ⟨_, rfl, _, ((hle5.trans hle7).trans hle59).trans hle60, (S85.pick [] [] (by decide) trivial), ?_⟩
       rw [← hfin]
       exact ⟨_, _, _, rfl, hr3, hd2⟩
end Go.Proofs.Ythppkofceancjaa
namespace Go.Proofs.Ythppkofceancjaa
open Go.ChangeShapes Go.WideShapes Go.ChangeAt Go.RowKit
namespace InF
section
variable {P : Program} {n : Nat} {C : Ctx} {c : Code} {s : List K} {L : List (Nat × Value)} {w : World} {M : Hp} {X : Fr} {H : List Rs}
theorem ws_retQ (hk : kind c = 6) (h : ∀ a, Env n L a → C.Q .ret a w) : WS P n C c s L w := by
  have hpr : ∀ {s : List K} {a : Act} {w : World}, post P C [] .ret a w → post P C s .ret a w := by
    intro s
    induction s with
    | nil => exact fun h => h
    | cons x s ih => intro a w h; cases x <;> exact ih h
  intro a ha
  rw [kind_ret hk]
  exact wpIn_ret (hpr (h a ha))
theorem post_ret : ∀ {s : List K} {a : Act} {w : World}, C.Q .ret a w → post P C s .ret a w := by
  intro s
  induction s with
  | nil => exact fun h => h
  | cons x s ih => intro a w h; cases x <;> exact ih h
end
end InF
structure EnvD (D : List Deferred) (n : Nat) (L : List (Nat × Value)) (a : Act) : Prop where
  sz : a.tmps.size = n
  df : a.defers = D
  at_ : ∀ t v, lk L t = some v → a.tmps.getD t undef = v
section
variable {D : List Deferred} {n : Nat} {L L2 : List (Nat × Value)} {a : Act}
theorem EnvD.toEnv (h : EnvD D n L a) : Env n L { a with defers := [] } := ⟨h.sz, rfl, h.at_⟩
theorem EnvD.eval (h : EnvD D n L a) {x : Operand} {v : Value} (hx : oev L x = some v) : a.eval x = v := h.toEnv.eval hx
theorem EnvD.put (h : EnvD D n L a) {d : Nat} (hd : d < n) (v : Value) : EnvD D n ((d, v) :: L) (a.put (some d) v) := ⟨(h.toEnv.put hd v).sz, h.df, (h.toEnv.put hd v).at_⟩
theorem EnvD.sub (h : EnvD D n L a) (hs : Sub L L2) : EnvD D n L2 a := ⟨h.sz, h.df, fun t v hv => h.at_ t v (hs.lk t v hv)⟩
end
namespace InD
theorem oper_d (C : InF.Ctx) {P : Program} {o : Oper} {a : Act} {w : World} {next : Act → World → Prop} {Q : Exit → Act → World → Prop} (hnd : ∀ c, o.op ≠ .defer c) (h : o.wp P { a with defers := [] } w (fun a' w' => a'.defers = [] ∧ next { a' with defers := a.defers } w') (fun e a' w' => Q e { a' with defers := a.defers } w')) : o.wpIn C.F 0 P a w next Q := by
  obtain ⟨tm, df⟩ := a
  have hput : ∀ v, ({ Act.put { tmps := tm, defers := [] } o.dst v with defers := df } : Act) = Act.put { tmps := tm, defers := df } o.dst v := fun v => by cases o.dst <;> rfl
  refine ⟨fun f _ => C.F_fn f, ?_⟩
  rw [Oper.semAt_eq _ _ _ hnd]
  unfold Oper.wp at h
  replace h : o.upon P { tmps := tm, defers := [] } (fun a' w' => a'.defers = [] ∧ next { a' with defers := df } w') (fun e a' w' => Q e { a' with defers := df } w') ((execOp (Act.eval { tmps := tm, defers := df }) o).run P w) := h
  generalize (execOp (Act.eval { tmps := tm, defers := df }) o).run P w = r at h ⊢
  cases r with
  | ok nx w' =>
    cases nx with
    | value v =>
      replace h : next { Act.put { tmps := tm, defers := [] } o.dst v with defers := df } w' := h.2
      rw [hput] at h; exact h
    | skip =>
      replace h : next { Act.put { tmps := tm, defers := [] } o.dst undef with defers := df } w' := h.2
      rw [hput] at h; exact h
    | defer d =>
      have h1 : (Act.put { tmps := tm, defers := [d] } o.dst undef).defers = [] := h.1
      cases hd : o.dst <;> (rw [hd] at h1; cases h1)
    | enter f args =>
      refine ⟨C.F_isSome, InF.callsF C (Calls.mono h ?_)⟩
      rintro e w2 hh
      cases e with
      | returned v =>
        replace hh : next { Act.put { tmps := tm, defers := [] } o.dst v with defers := df } w2 := hh.2
        rw [hput] at hh; exact hh
      | panicked chain => exact hh
      | outgrown =>
        obtain ⟨a9, w9, hw⟩ := hh
        exact ⟨{ a9 with defers := df }, w9, hw⟩
    | row row args =>
      refine ⟨C.F_isSome, InF.rowsF C ?_⟩
      intro c cs
      obtain ⟨v, w2, hr, hs⟩ := h c cs
      replace hr : next { Act.put { tmps := tm, defers := [] } o.dst v with defers := df } w2 := hr.2
      rw [hput] at hr
      exact ⟨v, w2, hr, hs⟩
    | _ => exact h.elim
  | halt x w' =>
    cases x with
    | panic v => exact h
    | _ => exact h.elim
def WS (P : Program) (D : List Deferred) (n : Nat) (C : InF.Ctx) (c : Code) (s : List K) (L : List (Nat × Value)) (w : World) : Prop := ∀ a, EnvD D n L a → c.wpIn C.F 0 P (InF.post P C s) a w
def NM (P : Program) (D : List Deferred) (n : Nat) (C : InF.Ctx) (s : List K) (L : List (Nat × Value)) (w : World) : Prop := ∀ a, EnvD D n L a → InF.post P C s .normal a w
def WL (P : Program) (D : List Deferred) (n : Nat) (C : InF.Ctx) (c : Code) (k : Nat) (s : List K) (L : List (Nat × Value)) (w : World) : Prop := ∀ a, EnvD D n L a → wpListIn C.F 0 P (rg c) (InF.post P C s) ((rg c).toList.drop k) a w
section
variable {P : Program} {n : Nat} {C : InF.Ctx} {D : List Deferred} {c : Code} {s : List K} {L : List (Nat × Value)} {w : World}
theorem nm_sub (L2 : List (Nat × Value)) (hs : Sub L L2) (h : NM P D n C s L2 w) : NM P D n C s L w := fun a ha => h a (ha.sub hs)
theorem ws_seqN (a b : Code) (hk : kind c = 1) (ha : cL c = a) (hb : cR c = b) (h : WS P D n C a (.thn b :: s) L w) : WS P D n C c s L w := by
  subst ha; subst hb
  intro a ha
  rw [kind_seq hk]
  exact wpIn_seq (h a ha)
theorem ws_blockN (a : Code) (i : Nat) (hk : kind c = 3) (ha : cL c = a) (hi : cId c = i) (h : WS P D n C a (.blk i :: s) L w) : WS P D n C c s L w := by
  subst ha; subst hi
  intro a ha
  rw [kind_block hk]
  exact wpIn_block (h a ha)
theorem ws_skip (hk : kind c = 9) (h : NM P D n C s L w) : WS P D n C c s L w := by
  intro a ha
  rw [kind_skip hk]
  exact wpIn_skip (h a ha)
theorem nm_thn (h : WS P D n C c s L w) : NM P D n C (.thn c :: s) L w := fun a ha => h a ha
theorem nm_blk {id : Nat} (h : NM P D n C s L w) : NM P D n C (.blk id :: s) L w := fun a ha => h a ha
theorem nm_lp {I : Act → World → Prop} (h : ∀ a, EnvD D n L a → I a w) : NM P D n C (.lp I :: s) L w := fun a ha => h a ha
theorem ws_exit {s' : List K} (hk : kind c = 5) (hp : popTo (cId c) s = some s') (h : NM P D n C s' L w) : WS P D n C c s L w := by
  intro a ha
  rw [kind_exit hk]
  exact wpIn_exit (InF.post_exit hp a w (h a ha))
theorem ws_condN (x y : Code) {b : Bool} (hk : kind c = 2) (hb : oev L (cX c) = some (.bool b)) (hx : cL c = x) (hy : cR c = y) (ht : b = true → WS P D n C x s L w) (hf : b = false → WS P D n C y s L w) : WS P D n C c s L w := by
  subst hx; subst hy
  intro a ha
  rw [kind_cond hk]
  exact wpIn_cond_split (ha.eval hb) (fun h => ht h a ha) (fun h => hf h a ha)
theorem ws_in {a : Act} {c' : Code} (ha : EnvD D n L a) (hc : c' = c) (h : WS P D n C c s L w) : c'.wpIn C.F 0 P (InF.post P C s) a w := by subst hc; exact h a ha
theorem ws_loopE (I : Nat → Act → World → Prop) (hk : kind c = 4) (h0 : ∀ a, EnvD D n L a → ∃ k, I k a w)
    (round : ∀ k a w, I k a w → (cL c).wpIn C.F 0 P (InF.post P C (.lp (fun a' w' => ∃ k', k' < k ∧ I k' a' w') :: s)) a w) : WS P D n C c s L w := by
  intro a ha
  rw [kind_loop hk]
  have key : ∀ m k, k < m → ∀ a w, I k a w → Code.roundsIn C.F 0 P (cL c) (InF.post P C s) m a w := by
    intro m
    induction m with
    | zero => intro k hk; omega
    | succ m ih =>
      intro k hk a w hi
      rw [roundsIn_succ]
      refine wpIn_mono (round k a w hi) (fun e a w q => ?_)
      cases e with
      | normal =>
        obtain ⟨k', hlt, hi'⟩ := q
        exact ih k' (by omega) a w hi'
      | _ => exact q
  obtain ⟨k0, h1⟩ := h0 a ha
  exact wpIn_loop_rounds (k0 + 1) (key (k0 + 1) k0 (by omega) a w h1)
theorem ws_region (hk : kind c = 7) (h : WL P D n C c 0 s L w) : WS P D n C c s L w := by
  intro a ha
  rw [kind_region hk]
  exact wpIn_region_list (h a ha)
theorem wl_end {k : Nat} (hk : op c k = none) (h : NM P D n C s L w) : WL P D n C c k s L w := by
  intro a ha
  have : ((rg c).toList.drop k) = [] := by
    unfold op at hk
    rw [nth_eq] at hk
    exact List.drop_eq_nil_of_le (by simpa using hk)
  rw [this]
  exact wpListIn_nil (h a ha)
theorem wl_op {k k' : Nat} {o : Oper} (ho : op c k = some o) (hk : k' = k.succ) (hg : o.guard = none) (h : WO P n o L w (fun L' w' => WL P D n C c k' s L' w')) (hnd : InF.ndOp o = true := by rfl) : WL P D n C c k s L w := by
  intro a ha
  rw [drop_op ho]
  subst hk
  refine wpListIn_plain hg fun K hK => ?_
  exact oper_d C (InF.ndOp_spec hnd) (h _ ha.toEnv _ _ fun L' a' w' he hw => ⟨he.df, hK _ _ (hw _ ⟨he.sz, ha.df, he.at_⟩)⟩)
end
end InD
end Go.Proofs.Ythppkofceancjaa
namespace Go.Proofs.Ythppkofceancjaa
open Go.ChangeShapes Go.WideShapes Go.ChangeAt Go.RowKit
open Go.ChangeMaps (setBlock)
theorem MpOk.mono {κ ε : Type} {kc : κ → Value} {vc : ε → Value} {g : Nat} {es : List (κ × ε)} {N N' : Hp} (h : MpOk kc vc g es N) (k : N.le N') : MpOk kc vc g es N' := by
  obtain ⟨arr, clock, h1, h2, h3⟩ := h
  exact ⟨arr, clock, k _ _ h1, h2, h3⟩
section
variable {κ ε : Type}
/-- The map's entries. -/
def MpEs (kc : κ → Value) (vc : ε → Value) (N : Hp) (g : Nat) (arr : Array MapEntry) (clock : Nat) (es : List (κ × ε)) : Prop := N g = some (.map arr clock) ∧ arr.toList.map (fun e => (e.key, e.val)) = es.map (fun p => (kc p.1, vc p.2)) ∧ Stm arr clock
variable {kc : κ → Value} {vc : ε → Value} {N : Hp} {arr : Array MapEntry} {clock g : Nat} {es lf : List (κ × ε)} {seen : Array Nat}
theorem MpEs.mono {N' : Hp} (h : MpEs kc vc N g arr clock es) (k : N.le N') : MpEs kc vc N' g arr clock es := ⟨k _ _ h.1, h.2⟩
section
variable {P : Program} {o : Oper} {L : List (Nat × Value)} {w : World} {x : Operand} {T K E : TypeId} {n d r i : Nat} {Kt : List (Nat × Value) → World → Prop} {M : Hp} {X : Fr} {H : List Rs}
theorem one_sh (hm : MpOk kc vc g es (hp w)) : SH w (fun _ => none) ⟨fun _ => none, w⟩ [Rs.mp kc vc g es] := by
  refine ⟨fun _ _ h => by simp at h, fun _ _ h => by simp at h, fun _ _ h => by simp at h, fun r hr => ?_, fun r hr b hb => ?_, fun i j r s hij h1 h2 => ?_, Like.refl w⟩
  · rw [List.mem_singleton] at hr; subst hr; exact hm
  · rw [List.mem_singleton] at hr; subst hr
    obtain ⟨arr, clock, h1, _⟩ := hm
    simp [Rs.mp] at hb; subst hb
    exact ⟨hp_lt h1, rfl, rfl⟩
  · have h1 := (List.getElem?_eq_some_iff.1 h1).1
    have h2 := (List.getElem?_eq_some_iff.1 h2).1
    simp at h1 h2; omega
/-- A lookup in a map that lasts. -/
theorem lookM [DecidableEq κ] {k : κ} {zv : ε} (hm : MpOk kc vc g es (hp w)) (hu : P.underlying T = some (.map K E)) (hK : MapK P K kc) (hz : (P.info? E).map (·.zero) = some (some (vc zv))) : (Instr.lookup T (.map (some g)) (kc k) false).run P w = .ok (vc ((mg k es).getD zv)) w :=
  (SH.look (i := 0) (H := [Rs.mp kc vc g es]) (M := fun _ => none) (X := ⟨fun _ => none, w⟩) (one_sh hm) rfl hu hK hz).1
theorem run_lookupM [DecidableEq κ] {y : Operand} {k : κ} {zv : ε} (hop : o.op = .lookup T x y false) (hx : oev L x = some (.map (some g))) (hy : oev L y = some (kc k)) (hu : P.underlying T = some (.map K E)) (hK : MapK P K kc) (hz : (P.info? E).map (·.zero) = some (some (vc zv))) (hm : MpOk kc vc g es N) (hN : N.le (hp w)) : Run P o L w (vc ((mg k es).getD zv)) w := by
  intro n c he
  unfold execOp
  simp only [hop, he.eval hx, he.eval hy, lookM (hm.mono hN) hu hK hz, Sem.run_bind, Result.andThen_ok, Sem.run_pure]
/-- A map of the call's own lasts from now on. -/
theorem SH.pubmap {H' : List Rs} (S : SH w M X H) (hi : nth H i = some (Rs.mp kc vc g es)) (hH : H.set i Rs.emp = H') : ∃ M', M.le M' ∧ SH w M' X H' ∧ MpOk kc vc g es M' := by
  obtain ⟨h1, h2, h3⟩ := S.pub hi hH
  have h4 : MpOk kc vc g es (hp w) := S.get hi
  obtain ⟨arr, clock, e, h5⟩ := h4
  exact ⟨_, h1, h2, arr, clock, (h3 g (by simp [Rs.mp])).trans e, h5⟩
end
end
section
variable {P : Program} {o : Oper} {L : List (Nat × Value)} {w : World} {x y : Operand} {t t' : TypeId} {a b : Int}
end
end Go.Proofs.Ythppkofceancjaa
namespace Go.Proofs.Ythppkofceancjaa
open Go.ChangeShapes Go.WideShapes Go.ChangeAt Go.RowKit
/-- No block stands in two things. -/
def apartL (H : List Rs) : Prop := H.Pairwise fun r s => ∀ b ∈ r.bl, b ∉ s.bl
theorem apart_iff {H : List Rs} : apartL H ↔ ∀ (i j : Nat) r s, i ≠ j → H[i]? = some r → H[j]? = some s → ∀ b ∈ r.bl, b ∉ s.bl := by
  unfold apartL
  rw [List.pairwise_iff_getElem]
  constructor
  · intro h i j r s hij hi hj b hb hbs
    obtain ⟨i1, e1⟩ := List.getElem?_eq_some_iff.1 hi
    obtain ⟨j1, e2⟩ := List.getElem?_eq_some_iff.1 hj
    rcases Nat.lt_or_ge i j with h1 | h1
    · exact h i j i1 j1 h1 b (by rw [e1]; exact hb) (by rw [e2]; exact hbs)
    · exact h j i j1 i1 (by omega) b (by rw [e2]; exact hbs) (by rw [e1]; exact hb)
  · intro h i j hi hj hij
    exact h i j _ _ (by omega) (List.getElem?_eq_getElem hi) (List.getElem?_eq_getElem hj)
section
variable {w : World} {M : Hp} {X : Fr} {A B H H' : List Rs}
theorem SH.bunC (S : SH w M X (A ++ B)) : SH w M X (Rs.bun A :: B) := by
  have hap := apart_iff.2 S.ap
  obtain ⟨h1, h2, h3⟩ := List.pairwise_append.1 hap
  refine ⟨S.m, S.x, S.mx, fun r hr => ?_, fun r hr b hb => ?_, apart_iff.1 (List.pairwise_cons.2 ⟨fun s hs b hb => ?_, h2⟩), S.like⟩
  · rcases List.mem_cons.1 hr with rfl | hr
    · exact ⟨fun r hr => S.ok r (by simp [hr]), apart_iff.1 h1⟩
    · exact S.ok r (by simp [hr])
  · rcases List.mem_cons.1 hr with rfl | hr
    · obtain ⟨q, hq, hb⟩ := List.mem_flatMap.1 hb
      exact S.bl q (by simp [hq]) b hb
    · exact S.bl r (by simp [hr]) b hb
  · obtain ⟨q, hq, hb⟩ := List.mem_flatMap.1 hb
    exact h3 q hq s hs b hb
theorem SH.unbunC (S : SH w M X (Rs.bun A :: B)) : SH w M X (A ++ B) := by
  obtain ⟨hok, hap⟩ := S.ok (Rs.bun A) (by simp)
  obtain ⟨h1, h2⟩ := List.pairwise_cons.1 (apart_iff.2 S.ap)
  refine ⟨S.m, S.x, S.mx, fun r hr => ?_, fun r hr b hb => ?_, apart_iff.1 (List.pairwise_append.2 ⟨apart_iff.2 hap, h2, fun r hr s hs b hb => h1 s hs b (List.mem_flatMap.2 ⟨r, hr, hb⟩)⟩), S.like⟩
  · rcases List.mem_append.1 hr with hr | hr
    · exact hok r hr
    · exact S.ok r (by simp [hr])
  · rcases List.mem_append.1 hr with hr | hr
    · exact S.bl (Rs.bun A) (by simp) b (List.mem_flatMap.2 ⟨r, hr, hb⟩)
    · exact S.bl r (by simp [hr]) b hb
end
namespace InF
section
variable {P : Program} {n : Nat} {C : Ctx} {c : Code} {s : List K} {L : List (Nat × Value)} {w : World} {M : Hp} {X : Fr} {H : List Rs}
end
end InF
end Go.Proofs.Ythppkofceancjaa
namespace Go.Proofs.Ythppkofceancjaa
open Go.ChangeShapes Go.WideShapes Go.ChangeAt Go.RowKit
/-- The marks that an activation bears, and their blocks. -/
def mkD (Ds : List Nat) : List Deferred := Ds.map fun r => { target := .collected r, args := #[] }
def Rs.mks (Ds : List Nat) : Rs :=
  ⟨Ds, fun h => Ds.Nodup ∧ ∀ D ∈ Ds, h D = some (.deferred (some [])), fun h h' hb hk => ⟨hk.1, fun D hD => by rw [hb D hD]; exact hk.2 D hD⟩⟩
section
variable {w : World} {M : Hp} {X : Fr} {H : List Rs} {Ds : List Nat}
theorem mks_nil (S : SH w M X H) : SH w M X (Rs.mks [] :: H) := by
  refine ⟨S.m, S.x, S.mx, fun r hr => ?_, fun r hr b hb => ?_, apart_iff.1 (List.pairwise_cons.2 ⟨fun s _ b hb => (by cases hb), apart_iff.2 S.ap⟩), S.like⟩
  · rcases List.mem_cons.1 hr with rfl | hr
    · exact ⟨List.nodup_nil, fun D hD => by cases hD⟩
    · exact S.ok r hr
  · rcases List.mem_cons.1 hr with rfl | hr
    · cases hb
    · exact S.bl r hr b hb
theorem mks_add {l D : Nat} {rc : Loop} (S : SH w M X (Rs.lr l D rc :: Rs.mks Ds :: H)) : SH w M X (Rs.mks (D :: Ds) :: H) := by
  have hap := apart_iff.2 S.ap
  obtain ⟨a1, a2⟩ := List.pairwise_cons.1 hap
  obtain ⟨a3, a4⟩ := List.pairwise_cons.1 a2
  obtain ⟨_, o2⟩ := S.ok (Rs.lr l D rc) (by simp)
  obtain ⟨o3, o4⟩ := S.ok (Rs.mks Ds) (by simp)
  have hD : D ∈ (Rs.lr l D rc).bl := by simp [Rs.lr]
  refine ⟨S.m, S.x, S.mx, fun r hr => ?_, fun r hr b hb => ?_, apart_iff.1 (List.pairwise_cons.2 ⟨fun s hs b hb => ?_, a4⟩), S.like⟩
  · rcases List.mem_cons.1 hr with rfl | hr
    · refine ⟨List.nodup_cons.2 ⟨a1 (Rs.mks Ds) (by simp) D hD, o3⟩, fun E hE => ?_⟩
      rcases List.mem_cons.1 hE with rfl | hE
      · exact o2
      · exact o4 E hE
    · exact S.ok r (by simp [hr])
  · rcases List.mem_cons.1 hr with rfl | hr
    · rcases List.mem_cons.1 hb with rfl | hb
      · exact S.bl (Rs.lr l b rc) (by simp) b (by simp [Rs.lr])
      · exact S.bl (Rs.mks Ds) (by simp) b hb
    · exact S.bl r (by simp [hr]) b hb
  · rcases List.mem_cons.1 hb with rfl | hb
    · exact a1 s (by simp [hs]) b hD
    · exact a3 s hs b hb
theorem mks_take {D : Nat} (S : SH w M X (Rs.mks (D :: Ds) :: H)) : SH (w.putObj D (.deferred none)) M X (Rs.mks Ds :: H) := by
  obtain ⟨o1, o2⟩ := S.ok (Rs.mks (D :: Ds)) (by simp)
  obtain ⟨o3, o4⟩ := List.nodup_cons.1 o1
  refine S.step (i := 0) (r := Rs.mks (D :: Ds)) (r' := Rs.mks Ds) rfl rfl ⟨rfl, rfl, rfl, by simp [World.putObj]⟩ (fun b _ hb => World.putObj_heap_other (fun e => hb (by rw [e]; simp [Rs.mks]))) ⟨o4, fun E hE => ?_⟩ (fun b hb => ⟨.inl (by simp only [Rs.mks] at hb ⊢; simp [hb]), ?_⟩)
  · exact (World.putObj_heap_other (fun e => o3 (by rw [← e]; exact hE))).trans (o2 E (by simp [hE]))
  · have := S.bl (Rs.mks (D :: Ds)) (by simp) b (by simp only [Rs.mks] at hb ⊢; simp [hb])
    simp only [World.putObj, Array.size_setIfInBounds]
    exact this.1
end
namespace InD
section
variable {P : Program} {n : Nat} {C : InF.Ctx} {c : Code} {s : List K} {L : List (Nat × Value)} {w : World} {M : Hp} {X : Fr} {H : List Rs}
theorem ws_rangeFunc {p : Nat} {g : Operand} {asg bd : Code} {f : FuncId} {lb : List Value} {enc : Nat → Value} {N : Nat} (hr : C.r = none) (hc : c = .rangeFunc g #[p] asg bd) (hp' : Nat.blt p n = true) (hg : oev L g = some (.func (.func f) #[] lb.toArray)) (hen : ∀ args w, (callFunc f args).run P w = .ok (.enter f args) w)
    {Ds : List Nat} (S : SH w M X (Rs.mks Ds :: H)) (I : Nat → Hp → List Rs → Prop) (I1 : Nat → Act → Hp → List Rs → Prop) (h0 : I 0 M H) (hit : InF.Iter P f lb enc N M X)
    (hassign : ∀ (k : Nat) (M' : Hp) (H' : List Rs) (w' : World) (C' : InF.Ctx) (R0 : Rs), k < N → M.le M' → SH w' M' X (R0 :: H') → I k M' H' → InF.WS P n C' asg [.lp (fun a w'' => ∃ M'' H'', M'.le M'' ∧ SH w'' M'' X (R0 :: H'') ∧ I1 k a M'' H'')] ((p, enc k) :: L) w')
    (hbody : ∀ (k : Nat) (M' : Hp) (H' : List Rs) (w' : World) (C' : InF.Ctx) (R0 : Rs) (a : Act), k < N → M.le M' → SH w' M' X (R0 :: H') → I1 k a M' H' → bd.wpIn C'.F 0 P (InF.post P C' [.lp (fun _ w'' => ∃ M'' H'', M'.le M'' ∧ SH w'' M'' X (R0 :: H'') ∧ I (k + 1) M'' H'')]) a w')
    (hdone : ∀ (D : Nat) (M' : Hp) (H' : List Rs) (w' : World), M.le M' → SH w' M' X (Rs.mks (D :: Ds) :: H') → I N M' H' → NM P (mkD (D :: Ds)) n C s L w') : WS P (mkD Ds) n C c s L w := by
  have hF : C.F = Fence.wide := by unfold InF.Ctx.F; rw [hr]
  intro a ha
  subst hc
  rw [hF]
  refine wpIn_rangeFunc ?_
  intro fn _
  rw [show Fence.wide.round = none from rfl]
  obtain ⟨rec, hrec⟩ : ∃ rec : LoopState → Loop, rec = fun st => { state := st, pending := none, fn, tmps := a.tmps, params := #[p], assign := asg, body := bd, defers := w.heap.size } := ⟨_, rfl⟩
  obtain ⟨W1, hW1⟩ : ∃ W1, (w.alloc (.deferred (some []))).alloc (.loop (rec .ready)) = W1 := ⟨_, rfl⟩
  have hL1 : W1.heap[w.heap.size + 1]? = some (.loop (rec .ready)) := by
    rw [← hW1]; have := World.alloc_heap_new (w.alloc (.deferred (some []))) (.loop (rec .ready)); rwa [World.size_alloc] at this
  have hK1 : W1.heap[w.heap.size]? = some (.deferred (some [])) := by
    rw [← hW1]; exact (Below.heap_alloc _ _ _ (by simp)).trans (World.alloc_heap_new w _)
  have hkeep : ∀ b, b < w.heap.size → hp W1 b = hp w b := fun b hb => by
    rw [← hW1]
    exact (keep_alloc (w.alloc (.deferred (some []))) _ b (by rw [size_al]; omega)).trans (keep_alloc w _ b hb)
  have S1 : SH W1 M X (Rs.lr (w.heap.size + 1) w.heap.size (rec .ready) :: Rs.mks Ds :: H) := by
    have hl : Like w W1 := by rw [← hW1]; exact (like_alloc w _).trans (like_alloc _ _)
    refine S.cons hl hkeep ⟨hL1, hK1⟩ (fun b hb => ?_)
    have hsz : W1.heap.size = w.heap.size + 2 := by rw [← hW1, size_al, size_al]
    simp only [Rs.lr, List.mem_cons, List.not_mem_nil, or_false] at hb
    omega
  have hdf : a.defers = mkD Ds := ha.df
  refine ⟨w.heap.size + 1, [{ target := .collected w.heap.size, args := #[] }], W1, { target := .fn (.func f) lb.toArray, args := #[.func (.yield (w.heap.size + 1)) #[] #[]] }, W1, f,
    #[.func (.yield (w.heap.size + 1)) #[] #[]] ++ lb.toArray, W1, ?_, ?_, fun _ _ => trivial, ?_, fun h => (by cases h), ?_⟩
  · rw [← hW1, hrec]; exact run_enterLoop_outer _ _ _ _ _
  · simp only [resolve, ha.eval hg]
    simp [go_sem]
  · simp [invoke, go_sem, hen]
  · rw [show (#[.func (.yield (w.heap.size + 1)) #[] #[]] ++ lb.toArray : Array Value) = ((Value.func (.yield (w.heap.size + 1)) #[] #[]) :: lb).toArray from by simp]
    refine (hit (w.heap.size + 1) (fun k M' B => ∃ H', B = Rs.bun (Rs.lr (w.heap.size + 1) w.heap.size (rec .ready) :: Rs.mks Ds :: H') ∧ I k M' H') W1 M _ (Hp.le_refl _) ?_ S1.bun ⟨H, rfl, h0⟩).mono ?_
    · rintro k M' B' w' hk hle SB ⟨H', rfl, hI⟩
      have S' := SB.unbun
      obtain ⟨hl, hD⟩ := S'.ok (Rs.lr (w.heap.size + 1) w.heap.size (rec .ready)) (by simp)
      have hy := run_yield (P := P) (args := #[enc k]) hl (by rw [hrec]; rfl)
      rw [hrec] at hy
      refine ⟨fn, _, asg, bd, hy, roundIn_of_wpIn trivial ?_⟩
      have hC' : (InF.Ctx.mk (fun _ _ _ => False) (some (w.heap.size + 1))).F = Fence.wide.inRound (w.heap.size + 1) := rfl
      have e1 : ((#[p] : Array Tmp).zip #[enc k]).foldl (fun tmps (t, a) => tmps.setIfInBounds t a) a.tmps = a.tmps.setIfInBounds p (enc k) := by simp
      rw [← hC']
      have hA := hassign k M' H' w' (InF.Ctx.mk (fun _ _ _ => False) (some (w.heap.size + 1))) (Rs.bun [Rs.lr (w.heap.size + 1) w.heap.size (rec .ready), Rs.mks Ds]) hk hle (SH.bunC (A := [_, _]) S') hI _ (InF.env_start ha.toEnv (by simpa using hp'))
      rw [e1]
      refine wpIn_mono hA ?_
      rintro e a2 w2 hq
      cases e with
      | normal =>
        obtain ⟨M2, H2, hle2, S2', hI1⟩ := hq
        have S2 := SH.unbunC S2'
        obtain ⟨hl2, _⟩ := S2.ok (Rs.lr (w.heap.size + 1) w.heap.size (rec .ready)) (by simp)
        refine ⟨_, run_beginRound hl2 (by rw [hrec]), ?_⟩
        have S3 := InF.lr_put (rc' := { rec .ready with state := .busy }) S2
        refine wpIn_mono (hbody k M2 H2 _ (InF.Ctx.mk (fun _ _ _ => False) (some (w.heap.size + 1))) _ a2 hk (hle.trans hle2) (SH.bunC (A := [_, _]) S3) hI1) ?_
        rintro e a3 w3 hq3
        cases e with
        | normal =>
          obtain ⟨M4, H4, hle4, S4', hI4⟩ := hq3
          have S4 := SH.unbunC S4'
          obtain ⟨hl4, _⟩ := S4.ok (Rs.lr (w.heap.size + 1) w.heap.size { rec .ready with state := .busy }) (by simp)
          have he := run_endRound (P := P) none hl4
          have S5 := InF.lr_put (rc' := rec .ready) S4
          refine ⟨_, _, he, _, rfl, rfl, M4, Rs.bun (Rs.lr (w.heap.size + 1) w.heap.size (rec .ready) :: Rs.mks Ds :: H4), hle2.trans hle4, ?_, H4, rfl, hI4⟩
          have e2 : ({ ({ rec .ready with state := .busy } : Loop) with state := (if (none : Option Code).isNone = true then LoopState.ready else LoopState.done), pending := none } : Loop) = rec .ready := by rw [hrec]; rfl
          rw [e2]
          exact S5.bun
        | _ => exact hq3.elim
      | _ => exact hq.elim
    · rintro e w2 ⟨⟨v, rfl⟩, M', B', hle, SB, H', rfl, hI⟩
      have S' := SB.unbun
      obtain ⟨hl, hD⟩ := S'.ok (Rs.lr (w.heap.size + 1) w.heap.size (rec .ready)) (by simp)
      have he := run_endLoop (P := P) hl (by rw [hrec]; simp)
      refine ⟨none, w2.putObj (w.heap.size + 1) (.loop { rec .ready with state := .exhausted }), by rw [he, hrec], ?_⟩
      rw [hdf]
      exact hdone w.heap.size M' H' _ hle (mks_add (InF.lr_put (rc' := { rec .ready with state := .exhausted }) S')) hI _ ⟨ha.sz, rfl, ha.at_⟩
/-- An activation that bears marks hands its results out. -/
theorem leave_ds {fn : Func} {R : Ending → World → Prop} {tmps : Array Value} {Hs : List Rs} : ∀ (Ds : List Nat) (w : World), SH w M X (Rs.mks Ds :: Hs) → (∀ w', SH w' M X Hs → ∃ v, (results fn tmps).run P w' = .ok v w' ∧ R (.returned v) w') → LeavesInM Fence.wide 0 P fn tmps R (mkD Ds) .returning w
  | [], w, S, h => h w (S.suf (N := [Rs.mks []]))
  | D :: Ds, w, S, h => by
    obtain ⟨_, o2⟩ := S.ok (Rs.mks (D :: Ds)) (by simp)
    exact ⟨by simp, .inl ⟨D, _, rfl, run_takeDeferred (o2 D (by simp)), leave_ds Ds _ (mks_take S) h⟩⟩
theorem ws_retDs {fn : Func} {R : Ending → World → Prop} {Ds : List Nat} {Hs : List Rs} (hC : C.Q = bodyPostM Fence.wide 0 P fn R) (hk : kind c = 6) {rs : List ResultVar} (vs : List Value) (hr : fn.results = rs.toArray) (S : SH w M X (Rs.mks Ds :: Hs)) (h : ∀ w', SH w' M X Hs → ResIs P L w' rs vs ∧ R (.returned (tup vs)) w') : WS P (mkD Ds) n C c s L w := by
  intro a ha
  rw [kind_ret hk]
  refine wpIn_ret (InF.post_ret ?_)
  rw [hC]
  show LeavesInM Fence.wide 0 P fn a.tmps R a.defers .returning w
  rw [ha.df]
  refine leave_ds Ds w S fun w' S' => ?_
  obtain ⟨h1, h2⟩ := h w' S'
  exact ⟨tup vs, run_results ha.toEnv hr h1, h2⟩
theorem ws_of0 (h : WS P (mkD []) n C c s L w) : InF.WS P n C c s L w := fun a ha => h a ⟨ha.sz, ha.df, ha.at_⟩
end
end InD
namespace InF.G
theorem ws_ret {P : Program} {n : Nat} {C : InF.Ctx} {c : Code} {s : List K} {L : List (Nat × Value)} {w : World} {fn : Func} {R : Ending → World → Prop} (hC : C.Q = bodyPostM Fence.wide 0 P fn R) {rs : List ResultVar} (vs : List Value) (hr : fn.results = rs.toArray) (hk : kind c = 6) (h : ResIs P L w rs vs) (hR : R (.returned (tup vs)) w) : InF.WS P n C c s L w := by
  refine InF.ws_retQ hk fun a ha => ?_
  rw [hC]
  show LeavesInM Fence.wide 0 P fn a.tmps R a.defers .returning w
  rw [ha.df]
  exact ⟨tup vs, run_results ha hr h, hR⟩
end InF.G
end Go.Proofs.Ythppkofceancjaa
