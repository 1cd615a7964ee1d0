/- Part 6 of the proof of the law ColourCounts: the walks through its functions and the plain laws that they need. -/
import Derived.Test.YtefkjfcncpmneaaCcZ5
set_option linter.unusedSimpArgs false
set_option linter.unusedVariables false
namespace Go.Proofs.Ytefkjfcncpmneaa
open Go.ChangeShapes Go.WideShapes Go.ChangeAt Go.RowKit
theorem edge_nb {d : Dg} (h : arcsB d = true) {x s : Nat} (hx : x < d.crs.length) (hs : s < 4) : ∃ k, k < 2 * d.crs.length ∧ ((endC d k false = x ∧ endC d k true = nbC d x s) ∨ (endC d k true = x ∧ endC d k false = nbC d x s)) := by
 have ha := arcAt_bd h hx hs
 have e : (((arcAt d x s).toNat - 1 + 1 : Nat) : Int) = arcAt d x s := by omega
 refine ⟨(arcAt d x s).toNat - 1, by omega, ?_⟩
 unfold endC nbC
 rw [e]
 cases hb : entryB d x s
 ·right
  exact ⟨by rw [endOf_back h hx hs (b := true) hb], rfl⟩
 ·left
  exact ⟨by rw [endOf_back h hx hs (b := false) hb], rfl⟩
theorem nb_edge {d : Dg} (h : arcsB d = true) {k : Nat} (hk : k < 2 * d.crs.length) : ∃ s, s < 4 ∧ nbC d (endC d k false) s = endC d k true := by
 have ha : 1 ≤ ((k + 1 : Nat) : Int) ∧ ((k + 1 : Nat) : Int) ≤ 2 * (d.crs.length : Int) := by omega
 obtain ⟨_, h2, _⟩ := endD h ha false
 obtain ⟨h3, h4⟩ := endOf_there h ha false
 refine ⟨(endOf d ((k + 1 : Nat) : Int) false).2, h2, ?_⟩
 unfold nbC endC
 rw [h3, h4]
 rfl
theorem pcI_nb {d : Dg} (h : arcsB d = true) {x s : Nat} (hx : x < d.crs.length) (hs : s < 4) : pcI d (nbC d x s) = pcI d x := by
 obtain ⟨h1, h2, _⟩ := pcI_lt h hx
 exact (pcI_at h h1 ((pcs h).clo _ h1 _ h2 s hs)).2
theorem iniW_ga (n k : Nat) (hk : k ≤ n) (x : Nat) (hx : x < k) : ga (iniW n k) x = (x : Int) := by
 induction k with
 | zero => omega
 | succ k ih =>
  rw [iniW, ga_set _ _ _ _ (by rw [iniW_len]; omega)]
  split
  ·rename_i e; subst e; rfl
  ·exact ih (by omega) (by omega)
theorem roundG_W (d : Dg) (ws : List Int) (k : Nat) : roundW d ws k = roundG (fun j => endC d j false) (fun j => endC d j true) ws k := by
 induction k with
 | zero => rfl
 | succ k ih => rw [roundW, roundG, ih]
theorem rc_lt {d : Dg} (h : arcsB d = true) {x y : Nat} (hr : Rc d x y) (hx : x < d.crs.length) : y < d.crs.length := by
 induction hr with
 | refl => exact hx
 | step _ hk ih => exact nbC_lt h ih hk
theorem pieces_join {d : Dg} (h : arcsB d = true) (Z : Nat → Prop) (hZ : ∀ x s, x < d.crs.length → s < 4 → (Z x ↔ Z (nbC d x s))) {x y : Nat} (hx : x < d.crs.length) (hy : y < d.crs.length) (e : pcI d x = pcI d y) : Z x → Z y := by
 have hrc : ∀ c z, c < d.crs.length → Rc d c z → (Z c ↔ Z z) := fun c z hc hr => by
  induction hr with
  | refl => exact Iff.rfl
  | step hr' hk ih => exact ih.trans (hZ _ _ (rc_lt h hr' hc) hk)
 obtain ⟨h1, h2, _⟩ := pcI_lt h hx
 obtain ⟨_, h2', _⟩ := pcI_lt h hy
 rw [← e] at h2'
 obtain ⟨_, c0, hc0, _, hel⟩ := (pcs h).el _ h1
 obtain ⟨u, eu, _, ru⟩ := hel _ h2
 obtain ⟨v, ev, _, rv⟩ := hel _ h2'
 obtain rfl : x = u := by omega
 obtain rfl : y = v := by omega
 exact fun hz => (hrc _ _ hc0 rv).1 ((hrc _ _ hc0 ru).2 hz)
/-- Each crossing's label is the least crossing of its piece. -/
theorem whoL_law {d : Dg} (h : arcsB d = true) : ∀ x, x < d.crs.length → ∃ z : Nat, z < d.crs.length ∧ ga (whoL d) x = (z : Int) ∧ pcI d z = pcI d x ∧ ∀ y, y < d.crs.length → pcI d y = pcI d x → z ≤ y :=
 labels (N := d.crs.length) (K := 2 * d.crs.length) (fun j => endC d j false) (fun j => endC d j true) (fun k hk => ⟨endC_lt h hk false, endC_lt h hk true⟩) (pcI d)
  (fun k hk => by
   obtain ⟨s, hs, e⟩ := nb_edge h hk
   rw [← e, pcI_nb h (endC_lt h hk false) hs])
  (fun Z hZ x y hx hy e => pieces_join h Z (fun u s hu hs => by
   obtain ⟨k, hk, hh⟩ := edge_nb h hu hs
   have := hZ k hk
   rcases hh with ⟨h1, h2⟩ | ⟨h1, h2⟩
   ·rw [h1, h2] at this; exact this
   ·rw [h1, h2] at this; exact this.symm) hx hy e)
  (rndsW d) (rndsW_len d 0) (fun x hx => iniW_ga _ _ (Nat.le_refl _) x hx) (fun j => by rw [rndsW, roundG_W])
theorem who_root {d : Dg} (h : arcsB d = true) {x z : Nat} (hx : x < d.crs.length) (hz : ga (whoL d) x = (z : Int)) : z < d.crs.length ∧ pcI d z = pcI d x ∧ ga (whoL d) z = (z : Int) := by
 obtain ⟨u, h1, h2, h3, h4⟩ := whoL_law h x hx
 obtain rfl : z = u := by omega
 obtain ⟨v, g1, g2, g3, g4⟩ := whoL_law h z h1
 have a1 := g4 z h1 rfl
 have a2 := h4 v g1 (g3.trans h3)
 obtain rfl : v = z := by omega
 exact ⟨h1, h3, g2⟩
theorem who_iff {d : Dg} (h : arcsB d = true) {p : Nat} (hp : p < d.crs.length) (hr : ga (whoL d) p = (p : Int)) {x : Nat} (hx : x < d.crs.length) : ga (whoL d) x = (p : Int) ↔ pcI d x = pcI d p := by
 constructor
 ·intro e
  exact (who_root h hx e).2.1.symm
 ·intro e
  obtain ⟨u, h1, h2, h3, h4⟩ := whoL_law h x hx
  obtain ⟨v, g1, g2, g3, g4⟩ := whoL_law h p hp
  obtain rfl : v = p := by omega
  have a1 := h4 v hp e.symm
  have a2 := g4 u h1 (h3.trans e)
  rw [h2]
  omega
theorem cn_congr {P Q : Nat → Bool} (k : Nat) (h : ∀ x, x < k → P x = Q x) : cn P k = cn Q k := by
 induction k with
 | zero => rfl
 | succ k ih => rw [cn, cn, ih (fun x hx => h x (by omega)), h k (by omega)]
theorem cn_filter (P : Nat → Bool) (k : Nat) : cn P k = ((List.range k).filter P).length := by
 induction k with
 | zero => rfl
 | succ k ih =>
  rw [cn, ih, List.range_succ, List.filter_append, List.length_append]
  by_cases hp : P k = true <;> simp [hp]
theorem negW_cn (ws : List Int) (p : Int) (k : Nat) : negW ws p k = -(cn (fun x => decide (ga ws x = p)) k : Int) := by
 induction k with
 | zero => rfl
 | succ k ih =>
  rw [negW, cn, ih]
  by_cases e : ga ws k = p
  ·rw [if_pos e, if_pos (decide_eq_true e)]; omega
  ·rw [if_neg e, if_neg (by simpa using e)]; omega
theorem facW_cn (d : Dg) (ws : List Int) (p m : Int) (k : Nat) : facW d ws p m k = m + (cn (fun x => decide (ga ws (fcC d x) = p)) k : Int) := by
 induction k with
 | zero => rw [facW, cn]; omega
 | succ k ih =>
  rw [facW, cn, ih]
  by_cases e : ga ws (fcC d k) = p
  ·rw [if_pos e, if_pos (decide_eq_true e)]; omega
  ·rw [if_neg e, if_neg (by simpa using e)]; omega
theorem fcN_cn (d : Dg) (i : Nat) (hi : i < (pcsL d).length) (k : Nat) : ga (fcN d k) i = (cn (fun x => decide (pcI d (fcC d x) = i)) k : Int) := by
 induction k with
 | zero => rw [fcN, ga_rep _ _ _ hi]; rfl
 | succ k ih =>
  rw [fcN, cn]
  by_cases e : pcI d (fcC d k) = i
  ·rw [if_pos (decide_eq_true e), e, ga_set _ _ _ _ (by rw [fcN_len]; exact hi), if_pos rfl, ih]; omega
  ·rw [if_neg (by simpa using e), ga_set_ne _ _ _ _ e, ih]; omega
theorem piece_cn {d : Dg} (h : arcsB d = true) {i : Nat} (hi : i < (pcsL d).length) : (ga (pcsL d) i).length = cn (fun x => decide (pcI d x = i)) d.crs.length := by
 rw [cn_filter]
 obtain ⟨h1, c0, _, _, h2⟩ := (pcs h).el i hi
 have hn : ((List.range d.crs.length).filter (fun x => decide (pcI d x = i))).Nodup := List.Nodup.sublist (List.filter_sublist) List.nodup_range
 apply Nat.le_antisymm
 ·have h3 := nodup_le (ys := ((List.range d.crs.length).filter (fun x => decide (pcI d x = i))).map fun x : Nat => (x : Int)) h1 (fun y hy => by
   obtain ⟨z, rfl, hz, _⟩ := h2 y hy
   exact List.mem_map.2 ⟨z, List.mem_filter.2 ⟨List.mem_range.2 hz, decide_eq_true (pcI_at h hi hy).2⟩, rfl⟩)
  rw [List.length_map] at h3
  exact h3
 ·have hn' : (((List.range d.crs.length).filter (fun x => decide (pcI d x = i))).map fun x : Nat => (x : Int)).Nodup := by
   rw [List.nodup_iff_pairwise_ne, List.pairwise_map]
   exact List.Pairwise.imp (fun hab e => hab (by omega)) hn
  have h3 := nodup_le (ys := ga (pcsL d) i) hn' (fun y hy => by
   obtain ⟨z, hz, rfl⟩ := List.mem_map.1 hy
   obtain ⟨hz1, hz2⟩ := List.mem_filter.1 hz
   obtain ⟨_, g2, _⟩ := pcI_lt h (List.mem_range.1 hz1)
   rw [of_decide_eq_true hz2] at g2
   exact g2)
  rw [List.length_map] at h3
  exact h3
theorem root_count {d : Dg} (h : arcsB d = true) {p : Nat} (hp : p < d.crs.length) (hr : ga (whoL d) p = (p : Int)) : pcI d p < (pcsL d).length ∧
  (facW d (whoL d) p (negW (whoL d) p d.crs.length) (facesL d).length = 2 ↔ ga (fcN d (facesL d).length) (pcI d p) = ((ga (pcsL d) (pcI d p)).length : Int) + 2) := by
 obtain ⟨h1, _, _⟩ := pcI_lt h hp
 refine ⟨h1, ?_⟩
 rw [facW_cn, negW_cn, fcN_cn d _ h1, piece_cn h h1]
 have e1 : cn (fun x => decide (ga (whoL d) x = (p : Int))) d.crs.length = cn (fun x => decide (pcI d x = pcI d p)) d.crs.length := cn_congr _ fun x hx => decide_eq_decide.2 (who_iff h hp hr hx)
 have e2 : cn (fun x => decide (ga (whoL d) (fcC d x) = (p : Int))) (facesL d).length = cn (fun x => decide (pcI d (fcC d x) = pcI d p)) (facesL d).length := cn_congr _ fun x hx => decide_eq_decide.2 (who_iff h hp hr (fcC_lt h hx))
 rw [e1, e2]
 omega
theorem planar_law {d : Dg} (h : arcsB d = true) : planIs d = planP d := by
 rw [Bool.eq_iff_iff]
 constructor
 ·intro hp
  apply planP_t
  intro i hi
  obtain ⟨_, c0, hc0, hm, _⟩ := (pcs h).el i hi
  have e0 := (pcI_at h hi hm).2
  obtain ⟨z, _, hz, _⟩ := whoL_law h c0 hc0
  obtain ⟨r1, r2, r3⟩ := who_root h hc0 hz
  have hq := List.all_eq_true.1 hp z (List.mem_range.2 r1)
  unfold rootOk at hq
  rw [Bool.or_eq_true] at hq
  rcases hq with hq | hq
  ·exact absurd r3 (of_decide_eq_true hq)
  ·have := (root_count h r1 r3).2.1 (of_decide_eq_true hq)
   rw [r2, e0] at this
   exact this
 ·intro hp
  apply planIs_t
  intro p hpn
  unfold rootOk
  rw [Bool.or_eq_true]
  by_cases hr : ga (whoL d) p = (p : Int)
  ·right
   obtain ⟨h1, h2⟩ := root_count h hpn hr
   have hq := List.all_eq_true.1 hp _ (List.mem_range.2 h1)
   exact decide_eq_true (h2.2 (of_decide_eq_true hq))
  ·left
   exact decide_eq_true hr
end Go.Proofs.Ytefkjfcncpmneaa
namespace Go.Proofs.Ytefkjfcncpmneaa
open Go.ChangeShapes Go.WideShapes Go.ChangeAt Go.RowKit
theorem SH.pubBx {w : World} {M : Hp} {X : Fr} {H H' : List Rs} {i g : Nat} {T : TypeId} {l : List Value} (S : SH w M X H) (hi : nth H i = some (Rs.box g T l)) (hH : H.set i Rs.emp = H') : ∃ M', M.le M' ∧ SH w M' X H' ∧ BxM M' g T l := by
 obtain ⟨h1, h2, h3⟩ := S.pub hi hH
 have h4 : hp w g = some (.cells l.toArray T (0, 0)) := S.get hi
 exact ⟨_, h1, h2, (h3 g (by simp [Rs.box])).trans h4⟩
theorem mayO {d : Dg} (h : mayB d = true) : d.crs.length ≤ 16 ∧ arcsB d = true ∧ 0 ≤ d.loops ∧ d.loops ≤ 16 := by
 rw [mayB_arcs, Bool.and_eq_true, decide_eq_true_iff] at h
 exact ⟨h.1.1, h.2, h.1.2.1, h.1.2.2.1⟩
def ShM (N : Hp) (d : Dg) (g : Nat) (cA iA oA : Option Addr) (cc ic oc : Nat) : Prop := BxM N g 93 [.slice cA d.crs.length cc, .int .i64 d.loops, .slice iA (tabL d false (4 * d.crs.length)).length ic, .slice oA (tabL d true (4 * d.crs.length)).length oc] ∧ RdA cdCr N cA cc d.crs ∧ RdA cdPl N iA ic (tabL d false (4 * d.crs.length)) ∧ RdA cdPl N oA oc (tabL d true (4 * d.crs.length))
def NewT (d : Dg) (v : Value) (N : Hp) : Prop :=
 (mayB d = false ∧ v = .tuple [.pointer none, .bool false].toArray) ∨
 (mayB d = true ∧ ∃ g cA iA oA cc ic oc, v = .tuple [.pointer (some ⟨g, 0, none⟩), .bool true].toArray ∧ ShM N d g cA iA oA cc ic oc)
theorem New_t {w : World} {M : Hp} {X : Fr} (d : Dg) {A : Option Addr} {c : Nat} (h : RdA cdCr (M.un X.h) A c d.crs) (S : SH w M X []) : Ct Try.prog 27 [.agg [.slice A d.crs.length c, .int .i64 d.loops].toArray] w M X (NewT d) := by
 refine (New_o d h S).mono ?_
 rintro e w' ⟨v, rfl, N, S1, ⟨hm, rfl, rfl⟩ | ⟨hm, g, vc, vi, vo, rfl, rfl, hv⟩⟩
 ·exact ⟨_, rfl, M, Hp.le_refl _, S1, .inl ⟨hm, rfl⟩⟩
 ·obtain ⟨hn, _⟩ := mayO hm
  have t1 := tabL_len d false (4 * d.crs.length)
  have t2 := tabL_len d true (4 * d.crs.length)
  clear hv
  obtain ⟨M1, l1, S2, ⟨cA, cc, rfl, r1⟩⟩ := S1.pubrow (i := 1) rfl rfl (by show _ * 40 ≤ _; omega)
  obtain ⟨M2, l2, S3, ⟨iA, ic, rfl, r2⟩⟩ := S2.pubrow (C := cdPl) (xs := tabL d false (4 * d.crs.length)) (i := 2) rfl rfl (by show _ * 16 ≤ _; omega)
  obtain ⟨M3, l3, S4, ⟨oA, oc, rfl, r3⟩⟩ := S3.pubrow (C := cdPl) (xs := tabL d true (4 * d.crs.length)) (i := 3) rfl rfl (by show _ * 16 ≤ _; omega)
  obtain ⟨M4, l4, S5, b⟩ := S4.pubBx (i := 0) rfl rfl
  exact ⟨_, rfl, M4, (l1.trans l2).trans (l3.trans l4), S5.pick [] [] (by decide) trivial, .inr ⟨hm, g, cA, iA, oA, cc, ic, oc, rfl, b, ((r1.mono l2).mono l3).mono l4, (r2.mono l3).mono l4, r3.mono l4⟩⟩
def DgR (d : Dg) (u : Value) (M : Hp) : Prop := ∃ A c, u = .agg [.slice A d.crs.length c, .int .i64 d.loops].toArray ∧ RdA cdCr M A c d.crs
noncomputable def DiagramOf_n0 : Code := Try.f9.body.getD .skip
noncomputable def DiagramOf_n1 : Code := cL DiagramOf_n0
noncomputable def DiagramOf_n2 : Code := cR DiagramOf_n0
noncomputable def DiagramOf_n3 : Code := cL DiagramOf_n2
noncomputable def DiagramOf_n4 : Code := cR DiagramOf_n2
noncomputable def DiagramOf_n5 : Code := cL DiagramOf_n4
noncomputable def DiagramOf_n6 : Code := cR DiagramOf_n4
set_option maxRecDepth 10000 in
theorem DiagramOf_t {w : World} {M : Hp} {X : Fr} (d : Dg) {dcrsA : Option Addr} {dcrsc : Nat} (hdcrs : RdA cdCr (M.un X.h) dcrsA dcrsc d.crs) (S : SH w M X []) : Ct Try.prog 9 [.agg [.slice dcrsA d.crs.length dcrsc, .int .i64 d.loops].toArray] w M X (DgR d) := by
 unfold Ct
 have rmhdcrs : d.crs.length * 40 ≤ 140737488355328 := hdcrs.room
 have hroom : d.crs.length * 40 ≤ 140737488355328 := hdcrs.room
 refine calls_in (b := DiagramOf_n0) Try.func9 rfl Try.ntmps9 rfl (fun C hC => ?_)
 refine ws_sub [(0, _)] ⟨rfl, trivial⟩ ?_
 refine ws_seqN DiagramOf_n1 DiagramOf_n2 rfl rfl rfl ?_
 refine ws_region rfl ?_
 refine wlo 0 1 rfl rfl rfl (wo_box (l := [_, _]) rfl rfl rfl rfl rfl S ?_)
 intro gb1 w1 S1; clear S
 refine wlo 1 2 rfl rfl rfl (wo_alloc (l := [_, _]) rfl rfl rfl zr24 rfl S1 ?_)
 intro gb2 w2 S2; clear S1
 refine wl_end rfl ?_
 refine nm_sub [(1, _), (2, _)] ⟨rfl, rfl, trivial⟩ ?_
 refine nm_thn ?_
 refine ws_seqN DiagramOf_n3 DiagramOf_n4 rfl rfl rfl ?_
 refine ws_region rfl ?_
 refine wlo 0 1 rfl rfl rfl (wo_run rfl rfl (run_fieldAddr rfl rfl Try.underlying24 rfl (ce22) (nf22)) ?_)
 refine wlo 1 2 rfl rfl rfl (wo_run rfl rfl (run_load1 rfl rfl Try.underlying22 rfl (S2.boxc (i := 1) rfl rfl)) ?_)
 have S3 := S2.nilrow cdCr; clear S2
 refine wlo 2 3 rfl rfl rfl (wo_appendM (C := cdCr) (i := 0) rfl rfl rfl rfl rfl rfl rfl rfl sl22 S3 rfl hdcrs S3.um (by have h : _ * 40 ≤ _ := hdcrs.room; show (0 + _) * 40 ≤ _; first | omega | (simp only [lens]; omega)) ?_)
 intro vr2 w3 S4; clear S3
 change SH _ _ _ [Rs.row cdCr vr2 d.crs, _, _] at S4
 refine wlo 3 4 rfl rfl rfl (wo_run rfl rfl (run_fieldAddr rfl rfl Try.underlying24 rfl (ce22) (nf22)) ?_)
 refine wlo 4 5 rfl rfl rfl (wo_storeB (i := 2) (us := [_]) (l' := [_, _]) (H' := [_, _, _]) rfl rfl S4 rfl rfl rfl (S4.cells1 (i := 0) rfl) sz22 rfl (ones_cons (S4.one (i := 0) rfl) rfl) rfl rfl ?_)
 intro w4 S5; clear S4
 refine wl_end rfl ?_
 refine nm_sub [(1, _), (2, _)] ⟨rfl, rfl, trivial⟩ ?_
 refine nm_thn ?_
 refine ws_seqN DiagramOf_n5 DiagramOf_n6 rfl rfl rfl ?_
 refine ws_region rfl ?_
 refine wlo 0 1 rfl rfl rfl (wo_run rfl rfl (run_loadN (us := [_, _]) rfl rfl Try.underlying24 rfl sz24 (S5.boxcs (i := 2) rfl ⟨rfl, rfl, trivial⟩)) ?_)
 refine wlo 1 2 rfl rfl rfl (wo_storeB (i := 1) (us := [_, _]) (l' := [_, _]) (H' := [_, _, _]) rfl rfl S5 rfl rfl rfl rfl sz24 rfl (ones_cons (S5.one (i := 0) rfl) (ones_cons rfl rfl)) rfl rfl ?_)
 intro w5 S6; clear S5
 refine wl_end rfl ?_
 refine nm_sub [(2, _)] ⟨rfl, trivial⟩ ?_
 refine nm_thn ?_
 obtain ⟨M1, hle1, S7, ⟨A1, c1, e1, hr1⟩⟩ := S6.pubrow (i := 0) (H' := [_, _, _]) rfl rfl (by show _ * 40 ≤ _; first | omega | (simp only [lens]; omega))
 clear S6; subst e1
 replace hdcrs := hdcrs.mono (Hp.un_mono hle1 S7.mx)
 refine ws_ret hC [_] rfl rfl ⟨⟨_, rfl, loadVarN (us := [_, _]) Try.underlying24 rfl sz24 (S7.boxcs (i := 1) rfl ⟨rfl, rfl, trivial⟩)⟩, trivial⟩ ?_
 refine ⟨_, rfl, _, hle1, (S7.pick [] [] (by decide) trivial), ?_⟩
 exact ⟨_, _, rfl, hr1⟩
end Go.Proofs.Ytefkjfcncpmneaa
namespace Go.Proofs.Ytefkjfcncpmneaa
open Go.ChangeShapes Go.WideShapes Go.ChangeAt Go.RowKit
/-- What forbids that a diagram is opened to wind. -/
def errO (d : Dg) : Int := if mayB d = true then (if planP d = true then 0 else 5) else 7
theorem errO_ok {d : Dg} (h : errO d = 0) : mayB d = true ∧ planP d = true := by
 unfold errO at h
 split at h
 ·split at h
  ·exact ⟨by assumption, by assumption⟩
  ·cases h
 ·cases h
def OpenT (d : Dg) (v : Value) (N : Hp) : Prop :=
 (errO d ≠ 0 ∧ v = .tuple [.pointer none, .int .i64 (errO d)].toArray) ∨
 (errO d = 0 ∧ ∃ g cA iA oA cc ic oc, v = .tuple [.pointer (some ⟨g, 0, none⟩), .int .i64 0].toArray ∧ ShM N d g cA iA oA cc ic oc)
noncomputable def Open_n0 : Code := Try.f54.body.getD .skip
noncomputable def Open_n1 : Code := cL Open_n0
noncomputable def Open_n2 : Code := cR Open_n0
noncomputable def Open_n3 : Code := cL Open_n2
noncomputable def Open_n4 : Code := cR Open_n2
noncomputable def Open_n5 : Code := cL Open_n4
noncomputable def Open_n6 : Code := cR Open_n4
noncomputable def Open_n7 : Code := cL Open_n5
noncomputable def Open_n8 : Code := cL Open_n7
noncomputable def Open_n9 : Code := cR Open_n7
noncomputable def Open_n10 : Code := cL Open_n9
noncomputable def Open_n11 : Code := cR Open_n9
noncomputable def Open_n12 : Code := cL Open_n10
noncomputable def Open_n13 : Code := cR Open_n10
noncomputable def Open_n14 : Code := cL Open_n11
noncomputable def Open_n15 : Code := cR Open_n11
noncomputable def Open_n16 : Code := cL Open_n15
noncomputable def Open_n17 : Code := cR Open_n15
noncomputable def Open_n18 : Code := cL Open_n16
noncomputable def Open_n19 : Code := cR Open_n16
noncomputable def Open_n20 : Code := cL Open_n6
noncomputable def Open_n21 : Code := cR Open_n6
set_option maxRecDepth 10000 in
theorem Open_t {w : World} {M : Hp} {X : Fr} (d : Dg) {dcrsA : Option Addr} {dcrsc : Nat} (hdcrs : RdA cdCr (M.un X.h) dcrsA dcrsc d.crs) (S : SH w M X []) : Ct Try.prog 54 [.agg [.slice dcrsA d.crs.length dcrsc, .int .i64 d.loops].toArray] w M X (OpenT d) := by
 unfold Ct
 have rmhdcrs : d.crs.length * 40 ≤ 140737488355328 := hdcrs.room
 refine calls_in (b := Open_n0) Try.func54 rfl Try.ntmps54 rfl (fun C hC => ?_)
 refine ws_sub [(0, _)] ⟨rfl, trivial⟩ ?_
 refine ws_seqN Open_n1 Open_n2 rfl rfl rfl ?_
 refine ws_region rfl ?_
 refine wlo 0 1 rfl rfl rfl (wo_box (l := [_, _]) rfl rfl rfl rfl rfl S ?_)
 intro gb1 w1 S1; clear S
 refine wla 1 2 rfl rfl rfl rfl rfl rfl rfl ?_
 refine wla 2 3 rfl rfl rfl rfl rfl rfl rfl ?_
 refine wl_end rfl ?_
 refine nm_sub [(1, _)] ⟨rfl, trivial⟩ ?_
 refine nm_thn ?_
 refine ws_seqN Open_n3 Open_n4 rfl rfl rfl ?_
 refine ws_region rfl ?_
 refine wlo 0 1 rfl rfl rfl (wo_run rfl rfl (run_loadN (us := [_, _]) rfl rfl Try.underlying24 rfl sz24 (S1.boxcs (i := 0) rfl ⟨rfl, rfl, trivial⟩)) ?_)
 refine wlo 1 2 rfl rfl rfl (wo_ct rfl rfl rfl rfl rfl rfl rfl cf27 S1 (New_t d (hdcrs.mono S1.un_XH) S1.lend) ?_)
 intro vw2 w2 M1 hle1 S2 hRw2; clear S1
 replace hdcrs := hdcrs.mono (Hp.un_mono hle1 S2.mx)
 rcases hRw2 with ⟨hmay8, rfl⟩ | ⟨hmay8, g1, cA8, iA8, oA8, cc8, ic8, oc8, rfl, hsb8, hsc8, hsi8, hso8⟩
 ·refine wlm 2 3 rfl rfl rfl rfl rfl rfl rfl ?_
  refine wlo 3 4 rfl rfl rfl (wo_run rfl rfl (run_extract rfl rfl rfl) ?_)
  refine wlo 4 5 rfl rfl rfl (wo_run rfl rfl (run_extract rfl rfl rfl) ?_)
  refine wla 5 6 rfl rfl rfl rfl rfl rfl rfl ?_
  refine wla 6 7 rfl rfl rfl rfl rfl rfl rfl ?_
  refine wl_end rfl ?_
  refine nm_sub [(4, _), (5, _)] ⟨rfl, rfl, trivial⟩ ?_
  refine nm_thn ?_
  refine ws_seqN Open_n5 Open_n6 rfl rfl rfl ?_
  refine ws_blockN Open_n7 0 rfl rfl rfl ?_
  refine ws_seqN Open_n8 Open_n9 rfl rfl rfl ?_
  refine ws_region rfl ?_
  refine wlm 0 1 rfl rfl rfl rfl rfl rfl rfl ?_
  refine wlo 1 2 rfl rfl rfl (wo_run rfl rfl (run_not rfl rfl) ?_)
  refine wla 2 3 rfl rfl rfl rfl rfl rfl rfl ?_
  refine wl_end rfl ?_
  refine nm_sub [(4, _), (11, _)] ⟨rfl, rfl, trivial⟩ ?_
  refine nm_thn ?_
  refine ws_condTN Open_n10 rfl rfl rfl ?_
  refine ws_seqN Open_n12 Open_n13 rfl rfl rfl ?_
  refine ws_region rfl ?_
  refine wla 0 1 rfl rfl rfl rfl rfl rfl rfl ?_
  refine wla 1 2 rfl rfl rfl rfl rfl rfl rfl ?_
  refine wl_end rfl ?_
  refine nm_sub [(2, _), (3, _)] ⟨rfl, rfl, trivial⟩ ?_
  refine nm_thn ?_
  refine ws_ret hC [_, _] rfl rfl ⟨rfl, rfl, trivial⟩ ?_
  refine ⟨_, rfl, _, hle1, (S2.pick [] [] (by decide) trivial), ?_⟩
  have e0 : errO d = 7 := by unfold errO; rw [if_neg (by rw [hmay8]; exact Bool.false_ne_true)]
  exact .inl ⟨by rw [e0]; decide, by rw [e0]; rfl⟩
 ·obtain ⟨hn, hab, hlo0, hlo1⟩ := mayO hmay8
  refine wlm 2 3 rfl rfl rfl rfl rfl rfl rfl ?_
  refine wlo 3 4 rfl rfl rfl (wo_run rfl rfl (run_extract rfl rfl rfl) ?_)
  refine wlo 4 5 rfl rfl rfl (wo_run rfl rfl (run_extract rfl rfl rfl) ?_)
  refine wla 5 6 rfl rfl rfl rfl rfl rfl rfl ?_
  refine wla 6 7 rfl rfl rfl rfl rfl rfl rfl ?_
  refine wl_end rfl ?_
  refine nm_sub [(4, _), (5, _)] ⟨rfl, rfl, trivial⟩ ?_
  refine nm_thn ?_
  refine ws_seqN Open_n5 Open_n6 rfl rfl rfl ?_
  refine ws_blockN Open_n7 0 rfl rfl rfl ?_
  refine ws_seqN Open_n8 Open_n9 rfl rfl rfl ?_
  refine ws_region rfl ?_
  refine wlm 0 1 rfl rfl rfl rfl rfl rfl rfl ?_
  refine wlo 1 2 rfl rfl rfl (wo_run rfl rfl (run_not rfl rfl) ?_)
  refine wla 2 3 rfl rfl rfl rfl rfl rfl rfl ?_
  refine wl_end rfl ?_
  refine nm_sub [(4, _), (11, _)] ⟨rfl, rfl, trivial⟩ ?_
  refine nm_thn ?_
  refine ws_condFN Open_n11 rfl rfl rfl ?_
  refine ws_seqN Open_n14 Open_n15 rfl rfl rfl ?_
  refine ws_region rfl ?_
  refine wlm 0 1 rfl rfl rfl rfl rfl rfl rfl ?_
  refine wlo 1 2 rfl rfl rfl (wo_ct rfl rfl rfl rfl rfl rfl rfl cf86 S2 (Planar_t d hsb8 hsc8 hsi8 hso8 hn hab S2.lend) ?_)
  intro vw3 w3 M2 hle2 S3 hRw3; clear S2
  replace hdcrs := hdcrs.mono (Hp.un_mono hle2 S3.mx)
  replace hsb8 := hsb8.mono hle2
  replace hsc8 := hsc8.mono hle2
  replace hsi8 := hsi8.mono hle2
  replace hso8 := hso8.mono hle2
  obtain rfl := hRw3
  refine wlo 2 3 rfl rfl rfl (wo_run rfl rfl (run_not rfl rfl) ?_)
  refine wla 3 4 rfl rfl rfl rfl rfl rfl rfl ?_
  refine wl_end rfl ?_
  refine nm_sub [(4, _), (14, _)] ⟨rfl, rfl, trivial⟩ ?_
  refine nm_thn ?_
  refine ws_condN Open_n16 Open_n17 rfl rfl rfl rfl (fun hb14 => ?_) (fun hb14 => ?_)
  ·simp only [Bool.and_eq_true, Bool.or_eq_true, Bool.and_eq_false_iff, Bool.or_eq_false_iff, decide_eq_true_eq, decide_eq_false_iff_not, Bool.not_eq_true', Bool.not_eq_false'] at hb14
   refine ws_seqN Open_n18 Open_n19 rfl rfl rfl ?_
   refine ws_region rfl ?_
   refine wla 0 1 rfl rfl rfl rfl rfl rfl rfl ?_
   refine wla 1 2 rfl rfl rfl rfl rfl rfl rfl ?_
   refine wl_end rfl ?_
   refine nm_sub [(2, _), (3, _)] ⟨rfl, rfl, trivial⟩ ?_
   refine nm_thn ?_
   refine ws_ret hC [_, _] rfl rfl ⟨rfl, rfl, trivial⟩ ?_
   refine ⟨_, rfl, _, hle1.trans hle2, (S3.pick [] [] (by decide) trivial), ?_⟩
   have e0 : errO d = 5 := by unfold errO; rw [if_pos hmay8, if_neg (by simp [*])]
   exact .inl ⟨by rw [e0]; decide, by rw [e0]; rfl⟩
  ·simp only [Bool.and_eq_true, Bool.or_eq_true, Bool.and_eq_false_iff, Bool.or_eq_false_iff, decide_eq_true_eq, decide_eq_false_iff_not, Bool.not_eq_true', Bool.not_eq_false'] at hb14
   refine ws_skip rfl ?_
   refine nm_blk ?_
   refine nm_sub [(4, _)] ⟨rfl, trivial⟩ ?_
   refine nm_thn ?_
   refine ws_seqN Open_n20 Open_n21 rfl rfl rfl ?_
   refine ws_region rfl ?_
   refine wlm 0 1 rfl rfl rfl rfl rfl rfl rfl ?_
   refine wla 1 2 rfl rfl rfl rfl rfl rfl rfl ?_
   refine wla 2 3 rfl rfl rfl rfl rfl rfl rfl ?_
   refine wl_end rfl ?_
   refine nm_sub [(2, _), (3, _)] ⟨rfl, rfl, trivial⟩ ?_
   refine nm_thn ?_
   refine ws_ret hC [_, _] rfl rfl ⟨rfl, rfl, trivial⟩ ?_
   refine ⟨_, rfl, _, hle1.trans hle2, (S3.pick [] [] (by decide) trivial), ?_⟩
   have e0 : errO d = 0 := by unfold errO; rw [if_pos hmay8, if_pos (by simpa using hb14)]
   exact .inr ⟨e0, _, _, _, _, _, _, _, rfl, hsb8, hsc8, hsi8, hso8⟩
noncomputable def PlanarMay_n0 : Code := Try.f25.body.getD .skip
noncomputable def PlanarMay_n1 : Code := cL PlanarMay_n0
noncomputable def PlanarMay_n2 : Code := cR PlanarMay_n0
noncomputable def PlanarMay_n3 : Code := cL PlanarMay_n2
noncomputable def PlanarMay_n4 : Code := cR PlanarMay_n2
noncomputable def PlanarMay_n5 : Code := cL PlanarMay_n3
noncomputable def PlanarMay_n6 : Code := cR PlanarMay_n3
noncomputable def PlanarMay_n7 : Code := cL PlanarMay_n6
noncomputable def PlanarMay_n8 : Code := cR PlanarMay_n6
noncomputable def PlanarMay_n9 : Code := cL PlanarMay_n7
noncomputable def PlanarMay_n10 : Code := cR PlanarMay_n7
noncomputable def PlanarMay_n11 : Code := cL PlanarMay_n4
noncomputable def PlanarMay_n12 : Code := cR PlanarMay_n4
noncomputable def PlanarMay_n13 : Code := cL PlanarMay_n11
noncomputable def PlanarMay_n14 : Code := cR PlanarMay_n11
noncomputable def PlanarMay_n15 : Code := cL PlanarMay_n14
noncomputable def PlanarMay_n16 : Code := cR PlanarMay_n14
noncomputable def PlanarMay_n17 : Code := cL PlanarMay_n15
noncomputable def PlanarMay_n18 : Code := cR PlanarMay_n15
noncomputable def PlanarMay_n19 : Code := cL PlanarMay_n12
noncomputable def PlanarMay_n20 : Code := cR PlanarMay_n12
set_option maxRecDepth 10000 in
theorem PlanarMay_t {w : World} {M : Hp} {X : Fr} (d : Dg) {dcrsA : Option Addr} {dcrsc : Nat} (hdcrs : RdA cdCr (M.un X.h) dcrsA dcrsc d.crs) (S : SH w M X []) : Ct Try.prog 25 [.agg [.slice dcrsA d.crs.length dcrsc, .int .i64 d.loops].toArray] w M X (fun u _ => u = .int .i64 (errO d)) := by
 unfold Ct
 have rmhdcrs : d.crs.length * 40 ≤ 140737488355328 := hdcrs.room
 refine calls_in (b := PlanarMay_n0) Try.func25 rfl Try.ntmps25 rfl (fun C hC => ?_)
 refine ws_sub [(0, _)] ⟨rfl, trivial⟩ ?_
 refine ws_seqN PlanarMay_n1 PlanarMay_n2 rfl rfl rfl ?_
 refine ws_region rfl ?_
 refine wlo 0 1 rfl rfl rfl (wo_box (l := [_, _]) rfl rfl rfl rfl rfl S ?_)
 intro gb1 w1 S1; clear S
 refine wla 1 2 rfl rfl rfl rfl rfl rfl rfl ?_
 refine wl_end rfl ?_
 refine nm_sub [(1, _)] ⟨rfl, trivial⟩ ?_
 refine nm_thn ?_
 refine ws_seqN PlanarMay_n3 PlanarMay_n4 rfl rfl rfl ?_
 refine ws_seqN PlanarMay_n5 PlanarMay_n6 rfl rfl rfl ?_
 refine ws_region rfl ?_
 refine wlo 0 1 rfl rfl rfl (wo_run rfl rfl (run_loadN (us := [_, _]) rfl rfl Try.underlying24 rfl sz24 (S1.boxcs (i := 0) rfl ⟨rfl, rfl, trivial⟩)) ?_)
 refine wlo 1 2 rfl rfl rfl (wo_cq rfl rfl rfl rfl rfl rfl rfl cf11 S1 (DiagramMay_q d (hdcrs.mono S1.un_XH) S1.lend) ?_)
 rintro _ w2 S2 rfl; clear S1
 refine wlo 2 3 rfl rfl rfl (wo_run rfl rfl (run_not rfl rfl) ?_)
 refine wl_end rfl ?_
 refine nm_sub [(1, _), (5, _)] ⟨rfl, rfl, trivial⟩ ?_
 refine nm_thn ?_
 refine ws_condN PlanarMay_n7 PlanarMay_n8 rfl rfl rfl rfl (fun hb5 => ?_) (fun hb5 => ?_)
 ·simp only [Bool.and_eq_true, Bool.or_eq_true, Bool.and_eq_false_iff, Bool.or_eq_false_iff, decide_eq_true_eq, decide_eq_false_iff_not, Bool.not_eq_true', Bool.not_eq_false'] at hb5
  refine ws_seqN PlanarMay_n9 PlanarMay_n10 rfl rfl rfl ?_
  refine ws_region rfl ?_
  refine wla 0 1 rfl rfl rfl rfl rfl rfl rfl ?_
  refine wl_end rfl ?_
  refine nm_sub [(2, _)] ⟨rfl, trivial⟩ ?_
  refine nm_thn ?_
  refine ws_ret hC [_] rfl rfl ⟨rfl, trivial⟩ ?_
  refine ⟨_, rfl, _, Hp.le_refl _, (S2.pick [] [] (by decide) trivial), ?_⟩
  have e0 : errO d = 7 := by unfold errO; rw [if_neg (by simp_all)]
  rw [e0]
  rfl
 ·simp only [Bool.and_eq_true, Bool.or_eq_true, Bool.and_eq_false_iff, Bool.or_eq_false_iff, decide_eq_true_eq, decide_eq_false_iff_not, Bool.not_eq_true', Bool.not_eq_false'] at hb5
  have hm : mayB d = true := by simpa using hb5
  obtain ⟨hn, hab, _, _⟩ := mayO hm
  refine ws_skip rfl ?_
  refine nm_sub [(1, _)] ⟨rfl, trivial⟩ ?_
  refine nm_thn ?_
  refine ws_seqN PlanarMay_n11 PlanarMay_n12 rfl rfl rfl ?_
  refine ws_seqN PlanarMay_n13 PlanarMay_n14 rfl rfl rfl ?_
  refine ws_region rfl ?_
  refine wlo 0 1 rfl rfl rfl (wo_run rfl rfl (run_loadN (us := [_, _]) rfl rfl Try.underlying24 rfl sz24 (S2.boxcs (i := 0) rfl ⟨rfl, rfl, trivial⟩)) ?_)
  refine wlo 1 2 rfl rfl rfl (wo_ct rfl rfl rfl rfl rfl rfl rfl cf58 S2 (PlanarIs_t d (hdcrs.mono S2.un_XH) (hn) (hab) S2.lend) ?_)
  intro vw3 w3 M1 hle1 S3 hRw3; clear S2
  replace hdcrs := hdcrs.mono (Hp.un_mono hle1 S3.mx)
  obtain rfl := hRw3
  refine wlo 2 3 rfl rfl rfl (wo_run rfl rfl (run_not rfl rfl) ?_)
  refine wl_end rfl ?_
  refine nm_sub [(8, _)] ⟨rfl, trivial⟩ ?_
  refine nm_thn ?_
  refine ws_condN PlanarMay_n15 PlanarMay_n16 rfl rfl rfl rfl (fun hb8 => ?_) (fun hb8 => ?_)
  ·simp only [Bool.and_eq_true, Bool.or_eq_true, Bool.and_eq_false_iff, Bool.or_eq_false_iff, decide_eq_true_eq, decide_eq_false_iff_not, Bool.not_eq_true', Bool.not_eq_false'] at hb8
   refine ws_seqN PlanarMay_n17 PlanarMay_n18 rfl rfl rfl ?_
   refine ws_region rfl ?_
   refine wla 0 1 rfl rfl rfl rfl rfl rfl rfl ?_
   refine wl_end rfl ?_
   refine nm_sub [(2, _)] ⟨rfl, trivial⟩ ?_
   refine nm_thn ?_
   refine ws_ret hC [_] rfl rfl ⟨rfl, trivial⟩ ?_
   refine ⟨_, rfl, _, hle1, (S3.pick [] [] (by decide) trivial), ?_⟩
   have e1 := planar_law hab
   have e0 : errO d = 5 := by unfold errO; rw [if_pos hm, if_neg (by rw [← e1]; simp [*])]
   rw [e0]
   rfl
  ·simp only [Bool.and_eq_true, Bool.or_eq_true, Bool.and_eq_false_iff, Bool.or_eq_false_iff, decide_eq_true_eq, decide_eq_false_iff_not, Bool.not_eq_true', Bool.not_eq_false'] at hb8
   refine ws_skip rfl ?_
   refine nm_sub [] trivial ?_
   refine nm_thn ?_
   refine ws_seqN PlanarMay_n19 PlanarMay_n20 rfl rfl rfl ?_
   refine ws_region rfl ?_
   refine wla 0 1 rfl rfl rfl rfl rfl rfl rfl ?_
   refine wl_end rfl ?_
   refine nm_thn ?_
   refine ws_ret hC [_] rfl rfl ⟨rfl, trivial⟩ ?_
   refine ⟨_, rfl, _, hle1, (S3.pick [] [] (by decide) trivial), ?_⟩
   have e1 := planar_law hab
   have e0 : errO d = 0 := by unfold errO; rw [if_pos hm, if_pos (by rw [← e1]; simpa using hb8)]
   rw [e0]
   rfl
end Go.Proofs.Ytefkjfcncpmneaa
namespace Go.Proofs.Ytefkjfcncpmneaa
open Go.ChangeShapes Go.WideShapes Go.ChangeAt Go.RowKit
section
variable {P : Program} {o : Oper} {L : List (Nat × Value)} {w : World} {a b : Int}
theorem run_min {ca : Call} {ops : List Operand} {ts : List TypeId} (hop : o.op = .call ca) (hca : ca.callee = .builtin .min) (hxs : ca.args = ops.toArray) (hts : ca.argTypes = ts.toArray) (hx : oevs L ops = some [.int .i64 a, .int .i64 b]) : Run P o L w (.int .i64 (min a b)) w := by
 intro n c he
 have e : (if b < a then b else a) = min a b := by
  by_cases h : b < a
  ·rw [if_pos h]; omega
  ·rw [if_neg h]; omega
 unfold execOp
 simp only [hop, resolve, hca, hxs, hts, List.map_toArray, he.evals hx, Sem.run_bind, Sem.run_pure, Result.andThen_ok, invoke, builtin, Builtin.min_, List.foldlM_cons, List.foldlM_nil, Builtin.min2, e]
end
def eB (d : Dg) (k : Nat) : Nat := (ga d.crs k).b.toNat
def eD (d : Dg) (k : Nat) : Nat := (ga d.crs k).d.toNat
def relN (cl : List Int) (f t : Int) : Nat → List Int
 | 0 => cl
 | a + 1 => if ga (relN cl f t a) a = f then (relN cl f t a).set a t else relN cl f t a
def frC (d : Dg) (cl : List Int) (k : Nat) : Int := max (ga cl (eB d k)) (ga cl (eD d k))
def toC (d : Dg) (cl : List Int) (k : Nat) : Int := min (ga cl (eB d k)) (ga cl (eD d k))
def clsN (d : Dg) : Nat → List Int
 | 0 => iniW (2 * d.crs.length + 1) (2 * d.crs.length + 1)
 | k + 1 => relN (clsN d k) (frC d (clsN d k) k) (toC d (clsN d k) k) (2 * d.crs.length + 1)
def clsL (d : Dg) : List Int := clsN d d.crs.length
theorem relN_len (cl : List Int) (f t : Int) (a : Nat) : (relN cl f t a).length = cl.length := by
 induction a with
 | zero => rfl
 | succ a ih => rw [relN]; split <;> (try rw [List.length_set]) <;> exact ih
theorem relN_ga (cl : List Int) (f t : Int) (a : Nat) (ha : a ≤ cl.length) : ∀ x, ga (relN cl f t a) x = if x < a ∧ ga cl x = f then t else ga cl x := by
 induction a with
 | zero => intro x; rw [if_neg (by omega)]; rfl
 | succ a ih =>
  have ih := ih (by omega)
  have ha0 : ga (relN cl f t a) a = ga cl a := by rw [ih, if_neg (by omega)]
  intro x
  rw [relN, ha0]
  split
  ·rename_i e
   rw [ga_set _ _ _ _ (by rw [relN_len]; omega)]
   split
   ·rename_i e2; subst e2
    rw [if_pos ⟨by omega, e⟩]
   ·rw [ih]
    by_cases h9 : x < a ∧ ga cl x = f
    ·rw [if_pos h9, if_pos ⟨by omega, h9.2⟩]
    ·rw [if_neg h9, if_neg (fun h => h9 ⟨by omega, h.2⟩)]
  ·rename_i e
   rw [ih]
   by_cases h9 : x < a ∧ ga cl x = f
   ·rw [if_pos h9, if_pos ⟨by omega, h9.2⟩]
   ·rw [if_neg h9, if_neg (fun (h : x < a + 1 ∧ ga cl x = f) => by
     by_cases h8 : x = a
     ·subst h8; exact e h.2
     ·exact h9 ⟨by omega, h.2⟩)]
/-- A class list: each label is the least label of its class, and lies in it. -/
def ClsOk (N : Nat) (cl : List Int) : Prop := cl.length = N ∧ ∀ x, x < N → 0 ≤ ga cl x ∧ ga cl x ≤ x ∧ ga cl (ga cl x).toNat = ga cl x
theorem ok_step {N : Nat} {cl cl' : List Int} {f t : Int} (hok : ClsOk N cl) (hl : cl'.length = N) (hg : ∀ x, x < N → ga cl' x = if ga cl x = f then t else ga cl x) (hft : t ≤ f) (h0 : 0 ≤ t) (hti : ga cl t.toNat = t) : ClsOk N cl' := by
 refine ⟨hl, fun x hx => ?_⟩
 obtain ⟨x1, x2, x3⟩ := hok.2 x hx
 have e := hg x hx
 by_cases hf : ga cl x = f
 ·rw [if_pos hf] at e
  rw [e]
  refine ⟨h0, by omega, ?_⟩
  rw [hg _ (by omega)]
  split
  ·rfl
  ·exact hti
 ·rw [if_neg hf] at e
  rw [e]
  refine ⟨x1, x2, ?_⟩
  rw [hg _ (by omega), x3, if_neg hf]
theorem cls_bd {d : Dg} (h : arcsB d = true) {k : Nat} (hk : k < d.crs.length) : (eB d k < 2 * d.crs.length + 1 ∧ ((eB d k : Nat) : Int) = (ga d.crs k).b) ∧ (eD d k < 2 * d.crs.length + 1 ∧ ((eD d k : Nat) : Int) = (ga d.crs k).d) := by
 have hb : 1 ≤ (ga d.crs k).b ∧ (ga d.crs k).b ≤ 2 * (d.crs.length : Int) := arcAt_bd h hk (k := 1) (by omega)
 have hd : 1 ≤ (ga d.crs k).d ∧ (ga d.crs k).d ≤ 2 * (d.crs.length : Int) := arcAt_bd h hk (k := 3) (by omega)
 unfold eB eD
 omega
theorem clsN_len (d : Dg) (k : Nat) : (clsN d k).length = 2 * d.crs.length + 1 := by
 induction k with
 | zero => exact iniW_len _ _
 | succ k ih => rw [clsN, relN_len, ih]
theorem clsN_ga (d : Dg) (k x : Nat) (hx : x < 2 * d.crs.length + 1) : ga (clsN d (k + 1)) x = if ga (clsN d k) x = frC d (clsN d k) k then toC d (clsN d k) k else ga (clsN d k) x := by
 rw [clsN, relN_ga _ _ _ _ (by rw [clsN_len]; exact Nat.le_refl _)]
 by_cases h9 : ga (clsN d k) x = frC d (clsN d k) k
 ·rw [if_pos ⟨hx, h9⟩, if_pos h9]
 ·rw [if_neg (fun h => h9 h.2), if_neg h9]
theorem cls_zero (d : Dg) (y : Nat) (hy : y < 2 * d.crs.length + 1) : ga (clsN d 0) y = (y : Int) := iniW_ga _ _ (Nat.le_refl _) y hy
theorem fr_or (d : Dg) (cl : List Int) (k : Nat) : frC d cl k = ga cl (eB d k) ∨ frC d cl k = ga cl (eD d k) := by unfold frC; omega
theorem to_or (d : Dg) (cl : List Int) (k : Nat) : toC d cl k = ga cl (eB d k) ∨ toC d cl k = ga cl (eD d k) := by unfold toC; omega
theorem clsN_ok {d : Dg} (h : arcsB d = true) (k : Nat) (hk : k ≤ d.crs.length) : ClsOk (2 * d.crs.length + 1) (clsN d k) := by
 induction k with
 | zero => exact ⟨iniW_len _ _, fun x hx => by
   rw [cls_zero d x hx]
   refine ⟨by omega, by omega, ?_⟩
   rw [show ((x : Int)).toNat = x by omega, cls_zero d x hx]⟩
 | succ k ih =>
  have ih := ih (by omega)
  obtain ⟨⟨b1, _⟩, ⟨b2, _⟩⟩ := cls_bd h (k := k) (by omega)
  obtain ⟨p1, _, p3⟩ := ih.2 _ b1
  obtain ⟨q1, _, q3⟩ := ih.2 _ b2
  refine ok_step ih (clsN_len _ _) (fun x hx => clsN_ga d k x hx) (by unfold frC toC; omega) (by unfold toC; omega) ?_
  rcases to_or d (clsN d k) k with e | e <;> rw [e] <;> assumption
theorem cls_keep {d : Dg} {j x y : Nat} (hx : x < 2 * d.crs.length + 1) (hy : y < 2 * d.crs.length + 1) (e : ga (clsN d j) x = ga (clsN d j) y) : ga (clsN d (j + 1)) x = ga (clsN d (j + 1)) y := by
 rw [clsN_ga d j x hx, clsN_ga d j y hy, e]
theorem cls_same {d : Dg} (h : arcsB d = true) {k : Nat} (hk : k < d.crs.length) (j : Nat) (hj : k < j) : ga (clsN d j) (eB d k) = ga (clsN d j) (eD d k) := by
 obtain ⟨⟨b1, _⟩, ⟨b2, _⟩⟩ := cls_bd h hk
 induction j with
 | zero => omega
 | succ j ih =>
  by_cases e : k = j
  ·subst e
   rw [clsN_ga d k _ b1, clsN_ga d k _ b2]
   unfold frC toC
   split <;> split <;> omega
  ·exact cls_keep b1 b2 (ih (by omega))
theorem cls_con {d : Dg} (h : arcsB d = true) (Z : Nat → Prop) (hZ : ∀ k, k < d.crs.length → (Z (eB d k) ↔ Z (eD d k))) (j : Nat) (hj : j ≤ d.crs.length) : ∀ x y, x < 2 * d.crs.length + 1 → y < 2 * d.crs.length + 1 → ga (clsN d j) x = ga (clsN d j) y → (Z x ↔ Z y) := by
 induction j with
 | zero =>
  intro x y hx hy e
  rw [cls_zero d x hx, cls_zero d y hy] at e
  obtain rfl : x = y := by omega
  exact Iff.rfl
 | succ j ih =>
  have ih := ih (by omega)
  obtain ⟨⟨b1, _⟩, ⟨b2, _⟩⟩ := cls_bd h (k := j) (by omega)
  have hz := hZ j (by omega)
  have hf : ∀ x, x < 2 * d.crs.length + 1 → ga (clsN d j) x = frC d (clsN d j) j → (Z x ↔ Z (eB d j)) := fun x hx e => by
   rcases fr_or d (clsN d j) j with e2 | e2
   ·exact ih x _ hx b1 (e.trans e2)
   ·exact (ih x _ hx b2 (e.trans e2)).trans hz.symm
  have ht : ∀ x, x < 2 * d.crs.length + 1 → ga (clsN d j) x = toC d (clsN d j) j → (Z x ↔ Z (eB d j)) := fun x hx e => by
   rcases to_or d (clsN d j) j with e2 | e2
   ·exact ih x _ hx b1 (e.trans e2)
   ·exact (ih x _ hx b2 (e.trans e2)).trans hz.symm
  intro x y hx hy e
  rw [clsN_ga d j x hx, clsN_ga d j y hy] at e
  by_cases hfx : ga (clsN d j) x = frC d (clsN d j) j
  ·rw [if_pos hfx] at e
   by_cases hfy : ga (clsN d j) y = frC d (clsN d j) j
   ·exact (hf x hx hfx).trans (hf y hy hfy).symm
   ·rw [if_neg hfy] at e
    exact (hf x hx hfx).trans (ht y hy e.symm).symm
  ·rw [if_neg hfx] at e
   by_cases hfy : ga (clsN d j) y = frC d (clsN d j) j
   ·rw [if_pos hfy] at e
    exact (ht x hx e).trans (hf y hy hfy).symm
   ·rw [if_neg hfy] at e
    exact ih x y hx hy e
/-- Of each arc the number of its overpass. -/
def rtB (d : Dg) (x : Nat) : Bool := decide (1 ≤ x ∧ ga (clsL d) x = (x : Int))
def rk (d : Dg) (a : Nat) : Int := (cn (rtB d) a : Int)
def ovA (d : Dg) (a : Nat) : Int := rk d (ga (clsL d) a).toNat
def oversL (d : Dg) : List Int := (List.range (2 * d.crs.length + 1)).map (ovA d)
theorem rk_bd (d : Dg) (a : Nat) : 0 ≤ rk d a ∧ rk d a ≤ a := by
 have := cn_le (rtB d) a
 unfold rk
 omega
theorem rk_one (d : Dg) : rk d 1 = 0 := rfl
theorem rk_root {d : Dg} {a : Nat} (h : 1 ≤ a) (e : ga (clsL d) a = (a : Int)) : rk d (a + 1) = rk d a + 1 := by
 unfold rk
 rw [cn, if_pos (show rtB d a = true from decide_eq_true ⟨h, e⟩)]
 omega
theorem rk_skip {d : Dg} {a : Nat} (e : ¬ ga (clsL d) a = (a : Int)) : rk d (a + 1) = rk d a := by
 unfold rk
 rw [cn, if_neg (by unfold rtB; rw [decide_eq_true_iff]; exact fun h => e h.2)]
 omega
theorem oversL_len (d : Dg) : (oversL d).length = 2 * d.crs.length + 1 := by simp [oversL]
theorem oversL_ga (d : Dg) {a : Nat} (h : a < 2 * d.crs.length + 1) : ga (oversL d) a = ovA d a := by
 rw [ga_eq (by rw [oversL_len]; exact h)]; simp [oversL]
noncomputable def Passes_n0 : Code := Try.f55.body.getD .skip
noncomputable def Passes_n1 : Code := cL Passes_n0
noncomputable def Passes_n2 : Code := cR Passes_n0
noncomputable def Passes_n3 : Code := cL Passes_n2
noncomputable def Passes_n4 : Code := cR Passes_n2
noncomputable def Passes_n5 : Code := cL Passes_n4
noncomputable def Passes_n6 : Code := cR Passes_n4
noncomputable def Passes_n7 : Code := cL Passes_n5
noncomputable def Passes_n8 : Code := cR Passes_n5
noncomputable def Passes_n9 : Code := cL Passes_n8
noncomputable def Passes_n10 : Code := cL Passes_n9
noncomputable def Passes_n11 : Code := cL Passes_n10
noncomputable def Passes_n12 : Code := cR Passes_n10
noncomputable def Passes_n13 : Code := cL Passes_n12
noncomputable def Passes_n14 : Code := cR Passes_n12
noncomputable def Passes_n15 : Code := cL Passes_n13
noncomputable def Passes_n16 : Code := cR Passes_n13
noncomputable def Passes_n17 : Code := cL Passes_n14
noncomputable def Passes_n18 : Code := cR Passes_n14
noncomputable def Passes_n19 : Code := cL Passes_n17
noncomputable def Passes_n20 : Code := cL Passes_n19
noncomputable def Passes_n21 : Code := cR Passes_n19
noncomputable def Passes_n22 : Code := cL Passes_n6
noncomputable def Passes_n23 : Code := cR Passes_n6
noncomputable def Passes_n24 : Code := cL Passes_n22
noncomputable def Passes_n25 : Code := cR Passes_n22
noncomputable def Passes_n26 : Code := cL Passes_n25
noncomputable def Passes_n27 : Code := cL Passes_n26
noncomputable def Passes_n28 : Code := cL Passes_n27
noncomputable def Passes_n29 : Code := cR Passes_n27
noncomputable def Passes_n30 : Code := cL Passes_n29
noncomputable def Passes_n31 : Code := cR Passes_n29
noncomputable def Passes_n32 : Code := cL Passes_n30
noncomputable def Passes_n33 : Code := cR Passes_n30
noncomputable def Passes_n34 : Code := cL Passes_n31
noncomputable def Passes_n35 : Code := cR Passes_n31
noncomputable def Passes_n36 : Code := cL Passes_n34
noncomputable def Passes_n37 : Code := cL Passes_n36
noncomputable def Passes_n38 : Code := cR Passes_n36
noncomputable def Passes_n39 : Code := cL Passes_n38
noncomputable def Passes_n40 : Code := cR Passes_n38
noncomputable def Passes_n41 : Code := cL Passes_n40
noncomputable def Passes_n42 : Code := cR Passes_n40
noncomputable def Passes_n43 : Code := cL Passes_n42
noncomputable def Passes_n44 : Code := cL Passes_n43
noncomputable def Passes_n45 : Code := cL Passes_n44
noncomputable def Passes_n46 : Code := cR Passes_n44
noncomputable def Passes_n47 : Code := cL Passes_n46
noncomputable def Passes_n48 : Code := cR Passes_n46
noncomputable def Passes_n49 : Code := cL Passes_n47
noncomputable def Passes_n50 : Code := cR Passes_n47
noncomputable def Passes_n51 : Code := cL Passes_n48
noncomputable def Passes_n52 : Code := cR Passes_n48
noncomputable def Passes_n53 : Code := cL Passes_n51
noncomputable def Passes_n54 : Code := cL Passes_n53
noncomputable def Passes_n55 : Code := cR Passes_n53
noncomputable def Passes_n56 : Code := cL Passes_n55
noncomputable def Passes_n57 : Code := cR Passes_n55
noncomputable def Passes_n58 : Code := cL Passes_n57
noncomputable def Passes_n59 : Code := cR Passes_n57
noncomputable def Passes_n60 : Code := cL Passes_n23
noncomputable def Passes_n61 : Code := cR Passes_n23
noncomputable def Passes_n62 : Code := cL Passes_n61
noncomputable def Passes_n63 : Code := cR Passes_n61
noncomputable def Passes_n64 : Code := cL Passes_n62
noncomputable def Passes_n65 : Code := cR Passes_n62
noncomputable def Passes_n66 : Code := cL Passes_n65
noncomputable def Passes_n67 : Code := cL Passes_n66
noncomputable def Passes_n68 : Code := cL Passes_n67
noncomputable def Passes_n69 : Code := cR Passes_n67
noncomputable def Passes_n70 : Code := cL Passes_n68
noncomputable def Passes_n71 : Code := cR Passes_n68
noncomputable def Passes_n72 : Code := cL Passes_n71
noncomputable def Passes_n73 : Code := cR Passes_n71
noncomputable def Passes_n74 : Code := cL Passes_n69
noncomputable def Passes_n75 : Code := cR Passes_n69
noncomputable def Passes_n76 : Code := cL Passes_n74
noncomputable def Passes_n77 : Code := cL Passes_n76
noncomputable def Passes_n78 : Code := cR Passes_n76
noncomputable def Passes_n79 : Code := cL Passes_n78
noncomputable def Passes_n80 : Code := cR Passes_n78
noncomputable def Passes_n81 : Code := cL Passes_n79
noncomputable def Passes_n82 : Code := cR Passes_n79
noncomputable def Passes_n83 : Code := cL Passes_n63
noncomputable def Passes_n84 : Code := cR Passes_n63
set_option maxHeartbeats 1000000 in
set_option maxRecDepth 10000 in
theorem Passes_t {w : World} {M : Hp} {X : Fr} (d : Dg) {gsh : Nat} {cA iA oA : Option Addr} {cc ic oc : Nat} (hsb : BxM (M.un X.h) gsh 93 [.slice cA d.crs.length cc, .int .i64 d.loops, .slice iA (tabL d false (4 * d.crs.length)).length ic, .slice oA (tabL d true (4 * d.crs.length)).length oc]) (hsc : RdA cdCr (M.un X.h) cA cc d.crs) (hsi : RdA cdPl (M.un X.h) iA ic (tabL d false (4 * d.crs.length))) (hso : RdA cdPl (M.un X.h) oA oc (tabL d true (4 * d.crs.length))) (hn : d.crs.length ≤ 16) (hab : arcsB d = true) (S : SH w M X []) : Ct Try.prog 55 [.pointer (some ⟨gsh, 0, none⟩)] w M X (fun u N => ∃ A c, u = .tuple [.slice A (oversL d).length c, .int .i64 (rk d (2 * d.crs.length + 1))].toArray ∧ RdA cdInt N A c (oversL d)) := by
 unfold Ct
 refine calls_in (b := Passes_n0) Try.func55 rfl Try.ntmps55 rfl (fun C hC => ?_)
 refine ws_sub [(0, _)] ⟨rfl, trivial⟩ ?_
 refine ws_seqN Passes_n1 Passes_n2 rfl rfl rfl ?_
 refine ws_region rfl ?_
 refine wla 0 1 rfl rfl rfl rfl rfl rfl rfl ?_
 refine wla 1 2 rfl rfl rfl rfl rfl rfl rfl ?_
 refine wl_end rfl ?_
 refine nm_sub [(0, _)] ⟨rfl, trivial⟩ ?_
 refine nm_thn ?_
 refine ws_seqN Passes_n3 Passes_n4 rfl rfl rfl ?_
 refine ws_region rfl ?_
 refine wlm 0 1 rfl rfl rfl rfl rfl rfl rfl ?_
 refine wlo 1 2 rfl rfl rfl (wo_cq rfl rfl rfl rfl rfl rfl rfl cf87 S (Arcs_q d  (hsb.mono S.un_XH) (hsc.mono S.un_XH) (hsi.mono S.un_XH) (hso.mono S.un_XH) (by omega) S.lend) ?_)
 rintro _ w1 S1 rfl; clear S
 refine wlo 2 3 rfl rfl rfl (wo_run rfl rfl (run_add rfl rfl rfl (by first | omega | (simp only [lens]; omega))) ?_)
 refine wlo 3 4 rfl rfl rfl (wo_make (C := cdInt) ((2 * (d.crs.length : Int)).toNat + 1) rfl rfl rfl rfl rfl sl33 (by first | rfl | omega) (by show _ * 8 ≤ _; first | omega | (simp only [lens]; omega)) S1 ?_)
 intro vr1 w2 S2; clear S1
 refine wla 4 5 rfl rfl rfl rfl rfl rfl rfl ?_
 refine wl_end rfl ?_
 refine nm_sub [(0, _), (4, _)] ⟨rfl, rfl, trivial⟩ ?_
 refine nm_thn ?_
 refine ws_seqN Passes_n5 Passes_n6 rfl rfl rfl ?_
 refine ws_seqN Passes_n7 Passes_n8 rfl rfl rfl ?_
 refine ws_region rfl ?_
 refine wlm 0 1 rfl rfl rfl rfl rfl rfl rfl ?_
 refine wlo 1 2 rfl rfl rfl (wo_run rfl rfl (run_lenR (C := cdInt) (i := 0) rfl rfl rfl rfl rfl rfl sl33 S2 rfl) ?_)
 refine wl_eq 19 (.int .i64 ((2 * d.crs.length + 1 : Nat) : Int)) rfl (int_eq (by rw [List.length_replicate]; omega)) ?_
 refine wlm 2 3 rfl rfl rfl rfl rfl rfl rfl ?_
 refine wl_end rfl ?_
 refine nm_sub [(0, _), (4, _), (19, _), (20, _)] ⟨rfl, rfl, rfl, rfl, trivial⟩ ?_
 refine nm_thn ?_
 refine ws_blockN Passes_n9 0 rfl rfl rfl ?_
 refine ws_loopE (fun mx_ ax_ wx_ => ∃ (i : Nat) (ws : List Int) (vrw : Value), mx_ = 2 * d.crs.length + 1 - i ∧ Env 110 [(0, .pointer (some ⟨gsh, 0, none⟩)), (4, vrw), (19, .int .i64 ((2 * d.crs.length + 1 : Nat) : Int)), (20, .int .i64 (i : Int))] ax_ ∧ SH wx_ M X [Rs.row cdInt vrw ws] ∧ i ≤ 2 * d.crs.length + 1 ∧ ws = iniW (2 * d.crs.length + 1) i) rfl ?_ ?_
 ·intro ax_ hax_
  refine ⟨_, ⟨0, _, _, rfl, hax_.sub ⟨rfl, rfl, rfl, rfl, trivial⟩, S2.pick [0] [_] (by decide) ⟨rfl, trivial⟩, ?hq1f0, ?hq1f1⟩⟩
  case hq1f0 => omega
  case hq1f1 => rfl
 ·rintro m1 a1 w3 ⟨i, ws, vrw, rfl, he1, S3, hi, hw⟩
  clear S2
  refine ws_in he1 (c := Passes_n10) rfl ?_
  clear he1 a1
  have hwl : ws.length = 2 * d.crs.length + 1 := by rw [hw, iniW_len]
  refine ws_seqN Passes_n11 Passes_n12 rfl rfl rfl ?_
  refine ws_region rfl ?_
  refine wlo 0 1 rfl rfl rfl (wo_run rfl rfl (run_lss rfl rfl rfl) ?_)
  refine wl_end rfl ?_
  refine nm_thn ?_
  refine ws_seqN Passes_n13 Passes_n14 rfl rfl rfl ?_
  refine ws_condN Passes_n15 Passes_n16 rfl rfl rfl rfl (fun hb21 => ?_) (fun hb21 => ?_)
  ·replace hb21 := of_decide_eq_true hb21
   refine ws_skip rfl ?_
   refine nm_sub [(0, _), (4, _), (19, _), (20, _)] ⟨rfl, rfl, rfl, rfl, trivial⟩ ?_
   refine nm_thn ?_
   refine ws_seqN Passes_n17 Passes_n18 rfl rfl rfl ?_
   refine ws_blockN Passes_n19 1 rfl rfl rfl ?_
   refine ws_seqN Passes_n20 Passes_n21 rfl rfl rfl ?_
   refine ws_region rfl ?_
   refine wlm 0 1 rfl rfl rfl rfl rfl rfl rfl ?_
   refine wla 1 2 rfl rfl rfl rfl rfl rfl rfl ?_
   refine wl_end rfl ?_
   refine nm_sub [(0, _), (4, _), (19, _), (20, _), (5, _)] ⟨rfl, rfl, rfl, rfl, rfl, trivial⟩ ?_
   refine nm_thn ?_
   refine ws_region rfl ?_
   refine wlm 0 1 rfl rfl rfl rfl rfl rfl rfl ?_
   refine wlm 1 2 rfl rfl rfl rfl rfl rfl rfl ?_
   refine wlm 2 3 rfl rfl rfl rfl rfl rfl rfl ?_
   refine wlo 3 4 rfl rfl rfl (wo_run rfl rfl (run_indexR (C := cdInt) (i := 0) i rfl rfl rfl sl33 S3 rfl (by first | rfl | omega) (by first | omega | (simp only [lens]; omega))) ?_)
   refine wlo 4 5 rfl rfl rfl (wo_storeR (C := cdInt) (i := 0) (e := i) (j := 0) (us := [_]) (H' := [_]) (i : Int) rfl rfl S3 rfl (by first | omega | (simp only [lens]; omega)) rfl rfl rfl sz3 rfl rfl rfl rfl ?_)
   intro w4 S4; clear S3
   refine wl_end rfl ?_
   refine nm_blk ?_
   refine nm_sub [(0, _), (4, _), (19, _), (20, _)] ⟨rfl, rfl, rfl, rfl, trivial⟩ ?_
   refine nm_thn ?_
   refine ws_region rfl ?_
   refine wlo 0 1 rfl rfl rfl (wo_run rfl rfl (run_add rfl rfl rfl (by first | omega | (simp only [lens]; omega))) ?_)
   refine wlm 1 2 rfl rfl rfl rfl rfl rfl rfl ?_
   refine wl_end rfl ?_
   refine nm_lp ?_
   intro ax_ hax_
   refine ⟨_, ?hq2m, ⟨i + 1, _, _, rfl, hax_.sub ⟨rfl, rfl, rfl, rfl, trivial⟩, S4.pick [0] [_] (by decide) ⟨rfl, trivial⟩, ?hq2f0, ?hq2f1⟩⟩
   case hq2f0 => omega
   case hq2f1 => (rw [hw]; rfl)
   case hq2m => omega
  ·replace hb21 := of_decide_eq_false hb21
   refine ws_exit rfl rfl ?_
   refine nm_sub [(0, _), (4, _)] ⟨rfl, rfl, trivial⟩ ?_
   refine nm_thn ?_
   refine ws_seqN Passes_n22 Passes_n23 rfl rfl rfl ?_
   refine ws_seqN Passes_n24 Passes_n25 rfl rfl rfl ?_
   refine ws_region rfl ?_
   refine wlm 0 1 rfl rfl rfl rfl rfl rfl rfl ?_
   refine wlo 1 2 rfl rfl rfl (wo_run rfl rfl (run_nilCheck rfl rfl) ?_)
   refine wlo 2 3 rfl rfl rfl (wo_run rfl rfl (run_fieldAddr rfl rfl Try.underlying93 rfl (ce24) (nf24)) ?_)
   refine wlo 3 4 rfl rfl rfl (wo_run rfl rfl (run_fieldAddr rfl rfl Try.underlying24 rfl (ce22) (nf22)) ?_)
   refine wlo 4 5 rfl rfl rfl (wo_run rfl rfl (run_load1 rfl rfl Try.underlying22 rfl (hsb.cell S3.um rfl)) ?_)
   refine wlo 5 6 rfl rfl rfl (wo_run rfl rfl (run_len rfl rfl rfl rfl rfl rfl Try.underlying22) ?_)
   refine wlm 6 7 rfl rfl rfl rfl rfl rfl rfl ?_
   refine wl_end rfl ?_
   refine nm_sub [(4, _), (32, _), (33, _), (34, _)] ⟨rfl, rfl, rfl, rfl, trivial⟩ ?_
   refine nm_thn ?_
   refine ws_blockN Passes_n26 2 rfl rfl rfl ?_
   refine ws_loopE (fun mx_ ax_ wx_ => ∃ (k : Nat) (cl : List Int) (vrc : Value), mx_ = d.crs.length - k ∧ Env 110 [(4, vrc), (32, .slice cA d.crs.length cc), (33, .int .i64 (d.crs.length : Int)), (34, .int .i64 (k : Int))] ax_ ∧ SH wx_ M X [Rs.row cdInt vrc cl] ∧ k ≤ d.crs.length ∧ cl = clsN d k) rfl ?_ ?_
   ·intro ax_ hax_
    refine ⟨_, ⟨0, _, _, rfl, hax_.sub ⟨rfl, rfl, rfl, rfl, trivial⟩, S3.pick [0] [_] (by decide) ⟨rfl, trivial⟩, ?hq3f0, ?hq3f1⟩⟩
    case hq3f0 => omega
    case hq3f1 => (obtain rfl : i = 2 * d.crs.length + 1 := (by omega); exact hw)
   ·rintro m2 a2 w5 ⟨k, cl, vrc, rfl, he2, S5, hk, hcl⟩
    clear S3
    refine ws_in he2 (c := Passes_n27) rfl ?_
    clear he2 a2
    have hll : cl.length = 2 * d.crs.length + 1 := by rw [hcl, clsN_len]
    have hebd := fun h => cls_bd hab (k := k) h
    refine ws_seqN Passes_n28 Passes_n29 rfl rfl rfl ?_
    refine ws_region rfl ?_
    refine wlo 0 1 rfl rfl rfl (wo_run rfl rfl (run_lss rfl rfl rfl) ?_)
    refine wl_end rfl ?_
    refine nm_thn ?_
    refine ws_seqN Passes_n30 Passes_n31 rfl rfl rfl ?_
    refine ws_condN Passes_n32 Passes_n33 rfl rfl rfl rfl (fun hb35 => ?_) (fun hb35 => ?_)
    ·replace hb35 := of_decide_eq_true hb35
     obtain ⟨⟨b1, b2⟩, ⟨b3, b4⟩⟩ := hebd (by omega)
     unfold eB at b1 b2
     unfold eD at b3 b4
     refine ws_skip rfl ?_
     refine nm_sub [(4, _), (32, _), (33, _), (34, _)] ⟨rfl, rfl, rfl, rfl, trivial⟩ ?_
     refine nm_thn ?_
     refine ws_seqN Passes_n34 Passes_n35 rfl rfl rfl ?_
     refine ws_blockN Passes_n36 3 rfl rfl rfl ?_
     refine ws_seqN Passes_n37 Passes_n38 rfl rfl rfl ?_
     refine ws_region rfl ?_
     refine wlo 0 1 rfl rfl rfl (wo_run rfl rfl (run_indexM (C := cdCr) k rfl rfl rfl sl22 (by first | rfl | omega) hsc (by first | omega | (simp only [lens]; omega))) ?_)
     refine wlo 1 2 rfl rfl rfl (wo_run rfl rfl (run_loadN (us := [_, _, _, _, _]) rfl rfl Try.underlying59 rfl sz59 (hsc.cellsAt S5.um (e := k) (by first | omega | (simp only [lens]; omega)) (j := 0) ⟨rfl, rfl, rfl, rfl, rfl, trivial⟩)) ?_)
     refine wlo 2 3 rfl rfl rfl (wo_alloc (l := [_, _, _, _, _]) rfl rfl rfl zr59 rfl S5 ?_)
     intro gb1 w6 S6; clear S5
     refine wlo 3 4 rfl rfl rfl (wo_storeB (i := 0) (us := [_, _, _, _, _]) (l' := [_, _, _, _, _]) (H' := [_, _]) rfl rfl S6 rfl rfl rfl rfl sz59 rfl rfl rfl rfl ?_)
     intro w7 S7; clear S6
     refine wl_end rfl ?_
     refine nm_sub [(4, _), (32, _), (33, _), (34, _), (7, _)] ⟨rfl, rfl, rfl, rfl, rfl, trivial⟩ ?_
     refine nm_thn ?_
     refine ws_seqN Passes_n39 Passes_n40 rfl rfl rfl ?_
     refine ws_draw rfl (by kernel_rfl) S7 24 rfl ?_
     clear S7
     refine wa_takeP (i := 0) (d := 38) 23 rfl (by kernel_rfl) (by kernel_rfl) (by kernel_rfl) rfl rfl rfl (fun w8 => run_move rfl rfl) ?_
     refine wa_takeP (i := 1) (d := 39) 22 rfl (by kernel_rfl) (by kernel_rfl) (by kernel_rfl) rfl rfl rfl (fun w9 => run_fieldAddr rfl rfl Try.underlying59 rfl (ce3) (nf3)) ?_
     refine wa_take (i := 2) (d := 40) 21 rfl (by kernel_rfl) (by kernel_rfl) (by kernel_rfl) rfl rfl rfl (fun M3 N3 w10 hle5 S10 => .inl (run_load1 rfl rfl Try.underlying3 rfl (S10.suf.boxc (i := 0) rfl rfl))) ?_
     refine wa_take (i := 3) (d := 41) 20 rfl (by kernel_rfl) (by kernel_rfl) (by kernel_rfl) rfl rfl rfl (fun M4 N4 w11 hle6 S11 => .inl (run_indexR (C := cdInt) (i := 1) (((ga d.crs k).b).toNat) rfl rfl rfl sl33 S11.suf rfl (by first | rfl | omega) (by first | omega | (simp only [lens]; omega)))) ?_
     refine wa_take (i := 4) (d := 42) 19 rfl (by kernel_rfl) (by kernel_rfl) (by kernel_rfl) rfl rfl rfl (fun M5 N5 w12 hle7 S12 => .inl (run_load1 rfl rfl Try.underlying3 rfl (S12.suf.rowc (i := 1) (e := ((ga d.crs k).b).toNat) (j := 0) rfl (by first | omega | (simp only [lens]; omega)) rfl rfl))) ?_
     refine wa_takeP (i := 5) (d := 43) 18 rfl (by kernel_rfl) (by kernel_rfl) (by kernel_rfl) rfl rfl rfl (fun w13 => run_move rfl rfl) ?_
     refine wa_takeP (i := 6) (d := 44) 17 rfl (by kernel_rfl) (by kernel_rfl) (by kernel_rfl) rfl rfl rfl (fun w14 => run_fieldAddr rfl rfl Try.underlying59 rfl (ce3) (nf3)) ?_
     refine wa_take (i := 7) (d := 45) 16 rfl (by kernel_rfl) (by kernel_rfl) (by kernel_rfl) rfl rfl rfl (fun M8 N8 w15 hle10 S15 => .inl (run_load1 rfl rfl Try.underlying3 rfl (S15.suf.boxc (i := 0) rfl rfl))) ?_
     refine wa_take (i := 8) (d := 46) 15 rfl (by kernel_rfl) (by kernel_rfl) (by kernel_rfl) rfl rfl rfl (fun M9 N9 w16 hle11 S16 => .inl (run_indexR (C := cdInt) (i := 1) (((ga d.crs k).d).toNat) rfl rfl rfl sl33 S16.suf rfl (by first | rfl | omega) (by first | omega | (simp only [lens]; omega)))) ?_
     refine wa_take (i := 9) (d := 47) 14 rfl (by kernel_rfl) (by kernel_rfl) (by kernel_rfl) rfl rfl rfl (fun M10 N10 w17 hle12 S17 => .inl (run_load1 rfl rfl Try.underlying3 rfl (S17.suf.rowc (i := 1) (e := ((ga d.crs k).d).toNat) (j := 0) rfl (by first | omega | (simp only [lens]; omega)) rfl rfl))) ?_
     refine wa_take (i := 10) (d := 48) 13 rfl (by kernel_rfl) (by kernel_rfl) (by kernel_rfl) rfl rfl rfl (fun M11 N11 w18 hle13 S18 => .inl (run_max rfl rfl rfl rfl rfl)) ?_
     refine wa_takeP (i := 11) (d := 49) 12 rfl (by kernel_rfl) (by kernel_rfl) (by kernel_rfl) rfl rfl rfl (fun w19 => run_move rfl rfl) ?_
     refine wa_takeP (i := 12) (d := 50) 11 rfl (by kernel_rfl) (by kernel_rfl) (by kernel_rfl) rfl rfl rfl (fun w20 => run_fieldAddr rfl rfl Try.underlying59 rfl (ce3) (nf3)) ?_
     refine wa_take (i := 13) (d := 51) 10 rfl (by kernel_rfl) (by kernel_rfl) (by kernel_rfl) rfl rfl rfl (fun M14 N14 w21 hle16 S21 => .inl (run_load1 rfl rfl Try.underlying3 rfl (S21.suf.boxc (i := 0) rfl rfl))) ?_
     refine wa_take (i := 14) (d := 52) 9 rfl (by kernel_rfl) (by kernel_rfl) (by kernel_rfl) rfl rfl rfl (fun M15 N15 w22 hle17 S22 => .inl (run_indexR (C := cdInt) (i := 1) (((ga d.crs k).b).toNat) rfl rfl rfl sl33 S22.suf rfl (by first | rfl | omega) (by first | omega | (simp only [lens]; omega)))) ?_
     refine wa_take (i := 15) (d := 53) 8 rfl (by kernel_rfl) (by kernel_rfl) (by kernel_rfl) rfl rfl rfl (fun M16 N16 w23 hle18 S23 => .inl (run_load1 rfl rfl Try.underlying3 rfl (S23.suf.rowc (i := 1) (e := ((ga d.crs k).b).toNat) (j := 0) rfl (by first | omega | (simp only [lens]; omega)) rfl rfl))) ?_
     refine wa_takeP (i := 16) (d := 54) 7 rfl (by kernel_rfl) (by kernel_rfl) (by kernel_rfl) rfl rfl rfl (fun w24 => run_move rfl rfl) ?_
     refine wa_takeP (i := 17) (d := 55) 6 rfl (by kernel_rfl) (by kernel_rfl) (by kernel_rfl) rfl rfl rfl (fun w25 => run_fieldAddr rfl rfl Try.underlying59 rfl (ce3) (nf3)) ?_
     refine wa_take (i := 18) (d := 56) 5 rfl (by kernel_rfl) (by kernel_rfl) (by kernel_rfl) rfl rfl rfl (fun M19 N19 w26 hle21 S26 => .inl (run_load1 rfl rfl Try.underlying3 rfl (S26.suf.boxc (i := 0) rfl rfl))) ?_
     refine wa_take (i := 19) (d := 57) 4 rfl (by kernel_rfl) (by kernel_rfl) (by kernel_rfl) rfl rfl rfl (fun M20 N20 w27 hle22 S27 => .inl (run_indexR (C := cdInt) (i := 1) (((ga d.crs k).d).toNat) rfl rfl rfl sl33 S27.suf rfl (by first | rfl | omega) (by first | omega | (simp only [lens]; omega)))) ?_
     refine wa_take (i := 20) (d := 58) 3 rfl (by kernel_rfl) (by kernel_rfl) (by kernel_rfl) rfl rfl rfl (fun M21 N21 w28 hle23 S28 => .inl (run_load1 rfl rfl Try.underlying3 rfl (S28.suf.rowc (i := 1) (e := ((ga d.crs k).d).toNat) (j := 0) rfl (by first | omega | (simp only [lens]; omega)) rfl rfl))) ?_
     refine wa_take (i := 21) (d := 59) 2 rfl (by kernel_rfl) (by kernel_rfl) (by kernel_rfl) rfl rfl rfl (fun M22 N22 w29 hle24 S29 => .inl (run_min rfl rfl rfl rfl rfl)) ?_
     refine wa_takeP (i := 22) (d := 8) 1 rfl (by kernel_rfl) (by kernel_rfl) (by kernel_rfl) rfl rfl rfl (fun w30 => run_assign rfl rfl) ?_
     refine wa_takeP (i := 23) (d := 9) 0 rfl (by kernel_rfl) (by kernel_rfl) (by kernel_rfl) rfl rfl rfl (fun w31 => run_assign rfl rfl) ?_
     refine wa_end (by kernel_rfl) (fun w32 S32 => ?_)
     refine nm_sub [(4, _), (32, _), (33, _), (34, _), (8, _), (9, _)] ⟨rfl, rfl, rfl, rfl, rfl, rfl, trivial⟩ ?_
     refine nm_thn ?_
     refine ws_seqN Passes_n41 Passes_n42 rfl rfl rfl ?_
     refine ws_eq 8 (.int .i64 (frC d cl k)) rfl (int_eq rfl) ?_
     refine ws_eq 9 (.int .i64 (toC d cl k)) rfl (int_eq rfl) ?_
     refine ws_region rfl ?_
     refine wlm 0 1 rfl rfl rfl rfl rfl rfl rfl ?_
     refine wlo 1 2 rfl rfl rfl (wo_run rfl rfl (run_lenR (C := cdInt) (i := 1) rfl rfl rfl rfl rfl rfl sl33 S32 rfl) ?_)
     refine wlm 2 3 rfl rfl rfl rfl rfl rfl rfl ?_
     refine wl_end rfl ?_
     refine nm_sub [(4, _), (32, _), (33, _), (34, _), (8, _), (9, _), (61, _), (62, _)] ⟨rfl, rfl, rfl, rfl, rfl, rfl, rfl, rfl, trivial⟩ ?_
     refine nm_thn ?_
     refine ws_blockN Passes_n43 4 rfl rfl rfl ?_
     refine ws_loopE (fun mx_ ax_ wx_ => ∃ (a : Nat) (cl2 : List Int) (vrc2 : Value), mx_ = 2 * d.crs.length + 1 - a ∧ Env 110 [(4, vrc2), (32, .slice cA d.crs.length cc), (33, .int .i64 (d.crs.length : Int)), (34, .int .i64 (k : Int)), (8, .int .i64 (frC d cl k)), (9, .int .i64 (toC d cl k)), (61, .int .i64 (cl.length : Int)), (62, .int .i64 (a : Int))] ax_ ∧ SH wx_ M X [Rs.row cdInt vrc2 cl2] ∧ a ≤ 2 * d.crs.length + 1 ∧ cl2 = relN cl (frC d cl k) (toC d cl k) a) rfl ?_ ?_
     ·intro ax_ hax_
      refine ⟨_, ⟨0, _, _, rfl, hax_.sub ⟨rfl, rfl, rfl, rfl, rfl, rfl, rfl, rfl, trivial⟩, S32.pick [1] [_] (by decide) ⟨rfl, trivial⟩, ?hq4f0, ?hq4f1⟩⟩
      case hq4f0 => omega
      case hq4f1 => rfl
     ·rintro m3 a3 w33 ⟨a, cl2, vrc2, rfl, he3, S33, ha, hc2⟩
      clear S32
      refine ws_in he3 (c := Passes_n44) rfl ?_
      clear he3 a3
      have hl2 : cl2.length = 2 * d.crs.length + 1 := by rw [hc2, relN_len, hll]
      refine ws_seqN Passes_n45 Passes_n46 rfl rfl rfl ?_
      refine ws_region rfl ?_
      refine wlo 0 1 rfl rfl rfl (wo_run rfl rfl (run_lss rfl rfl rfl) ?_)
      refine wl_end rfl ?_
      refine nm_thn ?_
      refine ws_seqN Passes_n47 Passes_n48 rfl rfl rfl ?_
      refine ws_condN Passes_n49 Passes_n50 rfl rfl rfl rfl (fun hb63 => ?_) (fun hb63 => ?_)
      ·replace hb63 := of_decide_eq_true hb63
       refine ws_skip rfl ?_
       refine nm_sub [(4, _), (32, _), (33, _), (34, _), (8, _), (9, _), (61, _), (62, _)] ⟨rfl, rfl, rfl, rfl, rfl, rfl, rfl, rfl, trivial⟩ ?_
       refine nm_thn ?_
       refine ws_seqN Passes_n51 Passes_n52 rfl rfl rfl ?_
       refine ws_blockN Passes_n53 5 rfl rfl rfl ?_
       refine ws_seqN Passes_n54 Passes_n55 rfl rfl rfl ?_
       refine ws_region rfl ?_
       refine wlm 0 1 rfl rfl rfl rfl rfl rfl rfl ?_
       refine wla 1 2 rfl rfl rfl rfl rfl rfl rfl ?_
       refine wl_end rfl ?_
       refine nm_sub [(4, _), (32, _), (33, _), (34, _), (8, _), (9, _), (61, _), (62, _), (10, _)] ⟨rfl, rfl, rfl, rfl, rfl, rfl, rfl, rfl, rfl, trivial⟩ ?_
       refine nm_thn ?_
       refine ws_seqN Passes_n56 Passes_n57 rfl rfl rfl ?_
       refine ws_region rfl ?_
       refine wlm 0 1 rfl rfl rfl rfl rfl rfl rfl ?_
       refine wlm 1 2 rfl rfl rfl rfl rfl rfl rfl ?_
       refine wlo 2 3 rfl rfl rfl (wo_run rfl rfl (run_indexR (C := cdInt) (i := 0) a rfl rfl rfl sl33 S33 rfl (by first | rfl | omega) (by first | omega | (simp only [lens]; omega))) ?_)
       refine wlo 3 4 rfl rfl rfl (wo_run rfl rfl (run_load1 rfl rfl Try.underlying3 rfl (S33.rowc (i := 0) (e := a) (j := 0) rfl (by first | omega | (simp only [lens]; omega)) rfl rfl)) ?_)
       refine wlm 4 5 rfl rfl rfl rfl rfl rfl rfl ?_
       refine wlo 5 6 rfl rfl rfl (wo_run rfl rfl (run_eql rfl rfl rfl) ?_)
       refine wl_end rfl ?_
       refine nm_sub [(4, _), (32, _), (33, _), (34, _), (8, _), (9, _), (61, _), (62, _), (10, _), (70, _)] ⟨rfl, rfl, rfl, rfl, rfl, rfl, rfl, rfl, rfl, rfl, trivial⟩ ?_
       refine nm_thn ?_
       refine ws_condN Passes_n58 Passes_n59 rfl rfl rfl rfl (fun hb70 => ?_) (fun hb70 => ?_)
       ·replace hb70 := of_decide_eq_true hb70
        refine ws_region rfl ?_
        refine wlm 0 1 rfl rfl rfl rfl rfl rfl rfl ?_
        refine wlm 1 2 rfl rfl rfl rfl rfl rfl rfl ?_
        refine wlm 2 3 rfl rfl rfl rfl rfl rfl rfl ?_
        refine wlo 3 4 rfl rfl rfl (wo_run rfl rfl (run_indexR (C := cdInt) (i := 0) a rfl rfl rfl sl33 S33 rfl (by first | rfl | omega) (by first | omega | (simp only [lens]; omega))) ?_)
        refine wlo 4 5 rfl rfl rfl (wo_storeR (C := cdInt) (i := 0) (e := a) (j := 0) (us := [_]) (H' := [_]) (toC d cl k) rfl rfl S33 rfl (by first | omega | (simp only [lens]; omega)) rfl rfl rfl sz3 rfl rfl rfl rfl ?_)
        intro w34 S34; clear S33
        refine wl_end rfl ?_
        refine nm_blk ?_
        refine nm_sub [(4, _), (32, _), (33, _), (34, _), (8, _), (9, _), (61, _), (62, _)] ⟨rfl, rfl, rfl, rfl, rfl, rfl, rfl, rfl, trivial⟩ ?_
        refine nm_thn ?_
        refine ws_region rfl ?_
        refine wlo 0 1 rfl rfl rfl (wo_run rfl rfl (run_add rfl rfl rfl (by first | omega | (simp only [lens]; omega))) ?_)
        refine wlm 1 2 rfl rfl rfl rfl rfl rfl rfl ?_
        refine wl_end rfl ?_
        refine nm_lp ?_
        intro ax_ hax_
        refine ⟨_, ?hq5m, ⟨a + 1, _, _, rfl, hax_.sub ⟨rfl, rfl, rfl, rfl, rfl, rfl, rfl, rfl, trivial⟩, S34.pick [0] [_] (by decide) ⟨rfl, trivial⟩, ?hq5f0, ?hq5f1⟩⟩
        case hq5f0 => omega
        case hq5f1 => (rw [relN, ← hc2]; first | rw [if_pos hb70] | rw [if_neg hb70])
        case hq5m => omega
       ·replace hb70 := of_decide_eq_false hb70
        refine ws_skip rfl ?_
        refine nm_blk ?_
        refine nm_sub [(4, _), (32, _), (33, _), (34, _), (8, _), (9, _), (61, _), (62, _)] ⟨rfl, rfl, rfl, rfl, rfl, rfl, rfl, rfl, trivial⟩ ?_
        refine nm_thn ?_
        refine ws_region rfl ?_
        refine wlo 0 1 rfl rfl rfl (wo_run rfl rfl (run_add rfl rfl rfl (by first | omega | (simp only [lens]; omega))) ?_)
        refine wlm 1 2 rfl rfl rfl rfl rfl rfl rfl ?_
        refine wl_end rfl ?_
        refine nm_lp ?_
        intro ax_ hax_
        refine ⟨_, ?hq6m, ⟨a + 1, _, _, rfl, hax_.sub ⟨rfl, rfl, rfl, rfl, rfl, rfl, rfl, rfl, trivial⟩, S33.pick [0] [_] (by decide) ⟨rfl, trivial⟩, ?hq6f0, ?hq6f1⟩⟩
        case hq6f0 => omega
        case hq6f1 => (rw [relN, ← hc2]; first | rw [if_pos hb70] | rw [if_neg hb70])
        case hq6m => omega
      ·replace hb63 := of_decide_eq_false hb63
       refine ws_exit rfl rfl ?_
       refine nm_blk ?_
       refine nm_sub [(4, _), (32, _), (33, _), (34, _)] ⟨rfl, rfl, rfl, rfl, trivial⟩ ?_
       refine nm_thn ?_
       refine ws_region rfl ?_
       refine wlo 0 1 rfl rfl rfl (wo_run rfl rfl (run_add rfl rfl rfl (by first | omega | (simp only [lens]; omega))) ?_)
       refine wlm 1 2 rfl rfl rfl rfl rfl rfl rfl ?_
       refine wl_end rfl ?_
       refine nm_lp ?_
       intro ax_ hax_
       refine ⟨_, ?hq7m, ⟨k + 1, _, _, rfl, hax_.sub ⟨rfl, rfl, rfl, rfl, trivial⟩, S33.pick [0] [_] (by decide) ⟨rfl, trivial⟩, ?hq7f0, ?hq7f1⟩⟩
       case hq7f0 => omega
       case hq7f1 => (obtain rfl : a = 2 * d.crs.length + 1 := (by omega); rw [hc2, hcl]; rfl)
       case hq7m => omega
    ·replace hb35 := of_decide_eq_false hb35
     refine ws_exit rfl rfl ?_
     refine nm_sub [(4, _)] ⟨rfl, trivial⟩ ?_
     refine nm_thn ?_
     refine ws_seqN Passes_n60 Passes_n61 rfl rfl rfl ?_
     obtain rfl : k = d.crs.length := by omega
     have hcL : cl = clsL d := hcl
     have hok : ∀ x, x < 2 * d.crs.length + 1 → 0 ≤ ga cl x ∧ ga cl x ≤ x ∧ ga cl (ga cl x).toNat = ga cl x := by rw [hcL]; exact (clsN_ok hab _ (Nat.le_refl _)).2
     have hok0 := hok 0 (by omega)
     refine ws_region rfl ?_
     refine wlm 0 1 rfl rfl rfl rfl rfl rfl rfl ?_
     refine wlo 1 2 rfl rfl rfl (wo_run rfl rfl (run_lenR (C := cdInt) (i := 0) rfl rfl rfl rfl rfl rfl sl33 S5 rfl) ?_)
     refine wlo 2 3 rfl rfl rfl (wo_make (C := cdInt) cl.length rfl rfl rfl rfl rfl sl33 (by first | rfl | omega) (by show _ * 8 ≤ _; first | omega | (simp only [lens]; omega)) S5 ?_)
     intro vr2 w35 S35; clear S5
     refine wla 3 4 rfl rfl rfl rfl rfl rfl rfl ?_
     refine wla 4 5 rfl rfl rfl rfl rfl rfl rfl ?_
     refine wl_end rfl ?_
     refine nm_sub [(4, _), (11, _), (12, _)] ⟨rfl, rfl, rfl, trivial⟩ ?_
     refine nm_thn ?_
     refine ws_seqN Passes_n62 Passes_n63 rfl rfl rfl ?_
     refine ws_seqN Passes_n64 Passes_n65 rfl rfl rfl ?_
     refine ws_eq 12 (.int .i64 (rk d 1)) rfl (int_eq (rk_one d).symm) ?_
     refine ws_region rfl ?_
     refine wla 0 1 rfl rfl rfl rfl rfl rfl rfl ?_
     refine wl_end rfl ?_
     refine nm_sub [(4, _), (11, _), (12, _), (13, _)] ⟨rfl, rfl, rfl, rfl, trivial⟩ ?_
     refine nm_thn ?_
     refine ws_blockN Passes_n66 6 rfl rfl rfl ?_
     refine ws_loopE (fun mx_ ax_ wx_ => ∃ (a : Nat) (oc : List Int) (vro : Value), mx_ = 2 * d.crs.length + 1 - a ∧ Env 110 [(4, vrc), (11, vro), (12, .int .i64 (rk d a)), (13, .int .i64 (a : Int))] ax_ ∧ SH wx_ M X [Rs.row cdInt vro oc, Rs.row cdInt vrc cl] ∧ (1 ≤ a ∧ a ≤ 2 * d.crs.length + 1) ∧ oc.length = 2 * d.crs.length + 1 ∧ (∀ x, x < a → ga oc x = ovA d x)) rfl ?_ ?_
     ·intro ax_ hax_
      refine ⟨_, ⟨1, _, _, rfl, hax_.sub ⟨rfl, rfl, rfl, rfl, trivial⟩, S35.pick [0, 1] [_, _] (by decide) ⟨rfl, rfl, trivial⟩, ?hq8f0, ?hq8f1, ?hq8f2⟩⟩
      case hq8f0 => omega
      case hq8f1 => (rw [List.length_replicate, hll])
      case hq8f2 => (intro x hx; obtain rfl : x = 0 := (by omega); rw [ga_rep _ _ _ (by omega)]; unfold ovA; rw [show (ga (clsL d) 0).toNat = 0 by rw [← hcL]; omega]; rfl)
     ·rintro m4 a4 w36 ⟨a, oc, vro, rfl, he4, S36, ha, hol, hov⟩
      clear S35
      refine ws_in he4 (c := Passes_n67) rfl ?_
      clear he4 a4
      refine ws_seqN Passes_n68 Passes_n69 rfl rfl rfl ?_
      refine ws_seqN Passes_n70 Passes_n71 rfl rfl rfl ?_
      refine ws_region rfl ?_
      refine wlm 0 1 rfl rfl rfl rfl rfl rfl rfl ?_
      refine wlm 1 2 rfl rfl rfl rfl rfl rfl rfl ?_
      refine wlo 2 3 rfl rfl rfl (wo_run rfl rfl (run_lenR (C := cdInt) (i := 1) rfl rfl rfl rfl rfl rfl sl33 S36 rfl) ?_)
      refine wlo 3 4 rfl rfl rfl (wo_run rfl rfl (run_lss rfl rfl rfl) ?_)
      refine wl_end rfl ?_
      refine nm_sub [(4, _), (11, _), (12, _), (13, _), (83, _)] ⟨rfl, rfl, rfl, rfl, rfl, trivial⟩ ?_
      refine nm_thn ?_
      refine ws_condN Passes_n72 Passes_n73 rfl rfl rfl rfl (fun hb83 => ?_) (fun hb83 => ?_)
      ·replace hb83 := of_decide_eq_true hb83
       obtain ⟨o1, o2, o3⟩ := hok a (by omega)
       have hrk := rk_bd d a
       refine ws_skip rfl ?_
       refine nm_sub [(4, _), (11, _), (12, _), (13, _)] ⟨rfl, rfl, rfl, rfl, trivial⟩ ?_
       refine nm_thn ?_
       refine ws_seqN Passes_n74 Passes_n75 rfl rfl rfl ?_
       refine ws_blockN Passes_n76 7 rfl rfl rfl ?_
       refine ws_seqN Passes_n77 Passes_n78 rfl rfl rfl ?_
       refine ws_region rfl ?_
       refine wlm 0 1 rfl rfl rfl rfl rfl rfl rfl ?_
       refine wlm 1 2 rfl rfl rfl rfl rfl rfl rfl ?_
       refine wlo 2 3 rfl rfl rfl (wo_run rfl rfl (run_indexR (C := cdInt) (i := 1) a rfl rfl rfl sl33 S36 rfl (by first | rfl | omega) (by first | omega | (simp only [lens]; omega))) ?_)
       refine wlo 3 4 rfl rfl rfl (wo_run rfl rfl (run_load1 rfl rfl Try.underlying3 rfl (S36.rowc (i := 1) (e := a) (j := 0) rfl (by first | omega | (simp only [lens]; omega)) rfl rfl)) ?_)
       refine wlm 4 5 rfl rfl rfl rfl rfl rfl rfl ?_
       refine wlo 5 6 rfl rfl rfl (wo_run rfl rfl (run_eql rfl rfl rfl) ?_)
       refine wl_end rfl ?_
       refine nm_sub [(4, _), (11, _), (12, _), (13, _), (91, _)] ⟨rfl, rfl, rfl, rfl, rfl, trivial⟩ ?_
       refine nm_thn ?_
       refine ws_condN Passes_n79 Passes_n80 rfl rfl rfl rfl (fun hb91 => ?_) (fun hb91 => ?_)
       ·replace hb91 := of_decide_eq_true hb91
        refine ws_seqN Passes_n81 Passes_n82 rfl rfl rfl ?_
        refine ws_region rfl ?_
        refine wlm 0 1 rfl rfl rfl rfl rfl rfl rfl ?_
        refine wlm 1 2 rfl rfl rfl rfl rfl rfl rfl ?_
        refine wlm 2 3 rfl rfl rfl rfl rfl rfl rfl ?_
        refine wlo 3 4 rfl rfl rfl (wo_run rfl rfl (run_indexR (C := cdInt) (i := 0) a rfl rfl rfl sl33 S36 rfl (by first | rfl | omega) (by first | omega | (simp only [lens]; omega))) ?_)
        refine wlo 4 5 rfl rfl rfl (wo_storeR (C := cdInt) (i := 0) (e := a) (j := 0) (us := [_]) (H' := [_, _]) (rk d a) rfl rfl S36 rfl (by first | omega | (simp only [lens]; omega)) rfl rfl rfl sz3 rfl rfl rfl rfl ?_)
        intro w37 S37; clear S36
        refine wl_end rfl ?_
        refine nm_sub [(4, _), (11, _), (12, _), (13, _)] ⟨rfl, rfl, rfl, rfl, trivial⟩ ?_
        refine nm_thn ?_
        refine ws_region rfl ?_
        refine wlm 0 1 rfl rfl rfl rfl rfl rfl rfl ?_
        refine wlo 1 2 rfl rfl rfl (wo_run rfl rfl (run_add rfl rfl rfl (by first | omega | (simp only [lens]; omega))) ?_)
        refine wla 2 3 rfl rfl rfl rfl rfl rfl rfl ?_
        refine wl_end rfl ?_
        refine nm_blk ?_
        refine nm_sub [(4, _), (11, _), (12, _), (13, _)] ⟨rfl, rfl, rfl, rfl, trivial⟩ ?_
        refine nm_thn ?_
        refine ws_eq 12 (.int .i64 (rk d (a + 1))) rfl (int_eq (by rw [rk_root ha.1 (by rw [← hcL]; exact hb91)])) ?_
        refine ws_region rfl ?_
        refine wlm 0 1 rfl rfl rfl rfl rfl rfl rfl ?_
        refine wlo 1 2 rfl rfl rfl (wo_run rfl rfl (run_add rfl rfl rfl (by first | omega | (simp only [lens]; omega))) ?_)
        refine wla 2 3 rfl rfl rfl rfl rfl rfl rfl ?_
        refine wl_end rfl ?_
        refine nm_lp ?_
        intro ax_ hax_
        refine ⟨_, ?hq9m, ⟨a + 1, _, _, rfl, hax_.sub ⟨rfl, rfl, rfl, rfl, trivial⟩, S37.pick [0, 1] [_, _] (by decide) ⟨rfl, rfl, trivial⟩, ?hq9f0, ?hq9f1, ?hq9f2⟩⟩
        case hq9f0 => omega
        case hq9f1 => simpa using hol
        case hq9f2 => (intro x hx; rw [ga_set _ _ _ _ (by omega)]; split; (rename_i e9; subst e9; unfold ovA; rw [← hcL]; first | exact congrArg (rk d) (by omega) | (rw [hov _ (by omega)]; unfold ovA; rw [← hcL, o3])); exact hov x (by omega))
        case hq9m => omega
       ·replace hb91 := of_decide_eq_false hb91
        refine ws_region rfl ?_
        refine wlm 0 1 rfl rfl rfl rfl rfl rfl rfl ?_
        refine wlm 1 2 rfl rfl rfl rfl rfl rfl rfl ?_
        refine wlm 2 3 rfl rfl rfl rfl rfl rfl rfl ?_
        refine wlm 3 4 rfl rfl rfl rfl rfl rfl rfl ?_
        refine wlm 4 5 rfl rfl rfl rfl rfl rfl rfl ?_
        refine wlo 5 6 rfl rfl rfl (wo_run rfl rfl (run_indexR (C := cdInt) (i := 1) a rfl rfl rfl sl33 S36 rfl (by first | rfl | omega) (by first | omega | (simp only [lens]; omega))) ?_)
        refine wlo 6 7 rfl rfl rfl (wo_run rfl rfl (run_load1 rfl rfl Try.underlying3 rfl (S36.rowc (i := 1) (e := a) (j := 0) rfl (by first | omega | (simp only [lens]; omega)) rfl rfl)) ?_)
        refine wlo 7 8 rfl rfl rfl (wo_run rfl rfl (run_indexR (C := cdInt) (i := 0) ((ga cl a).toNat) rfl rfl rfl sl33 S36 rfl (by first | rfl | omega) (by first | omega | (simp only [lens]; omega))) ?_)
        refine wlo 8 9 rfl rfl rfl (wo_run rfl rfl (run_load1 rfl rfl Try.underlying3 rfl (S36.rowc (i := 0) (e := (ga cl a).toNat) (j := 0) rfl (by first | omega | (simp only [lens]; omega)) rfl rfl)) ?_)
        refine wlo 9 10 rfl rfl rfl (wo_run rfl rfl (run_indexR (C := cdInt) (i := 0) a rfl rfl rfl sl33 S36 rfl (by first | rfl | omega) (by first | omega | (simp only [lens]; omega))) ?_)
        refine wlo 10 11 rfl rfl rfl (wo_storeR (C := cdInt) (i := 0) (e := a) (j := 0) (us := [_]) (H' := [_, _]) (ga oc ((ga cl a).toNat)) rfl rfl S36 rfl (by first | omega | (simp only [lens]; omega)) rfl rfl rfl sz3 rfl rfl rfl rfl ?_)
        intro w38 S38; clear S36
        refine wl_end rfl ?_
        refine nm_blk ?_
        refine nm_sub [(4, _), (11, _), (12, _), (13, _)] ⟨rfl, rfl, rfl, rfl, trivial⟩ ?_
        refine nm_thn ?_
        refine ws_eq 12 (.int .i64 (rk d (a + 1))) rfl (int_eq (by rw [rk_skip (by rw [← hcL]; exact hb91)])) ?_
        refine ws_region rfl ?_
        refine wlm 0 1 rfl rfl rfl rfl rfl rfl rfl ?_
        refine wlo 1 2 rfl rfl rfl (wo_run rfl rfl (run_add rfl rfl rfl (by first | omega | (simp only [lens]; omega))) ?_)
        refine wla 2 3 rfl rfl rfl rfl rfl rfl rfl ?_
        refine wl_end rfl ?_
        refine nm_lp ?_
        intro ax_ hax_
        refine ⟨_, ?hq10m, ⟨a + 1, _, _, rfl, hax_.sub ⟨rfl, rfl, rfl, rfl, trivial⟩, S38.pick [0, 1] [_, _] (by decide) ⟨rfl, rfl, trivial⟩, ?hq10f0, ?hq10f1, ?hq10f2⟩⟩
        case hq10f0 => omega
        case hq10f1 => simpa using hol
        case hq10f2 => (intro x hx; rw [ga_set _ _ _ _ (by omega)]; split; (rename_i e9; subst e9; unfold ovA; rw [← hcL]; first | exact congrArg (rk d) (by omega) | (rw [hov _ (by omega)]; unfold ovA; rw [← hcL, o3])); exact hov x (by omega))
        case hq10m => omega
      ·replace hb83 := of_decide_eq_false hb83
       refine ws_exit rfl rfl ?_
       refine nm_sub [(11, _), (12, _)] ⟨rfl, rfl, trivial⟩ ?_
       refine nm_thn ?_
       refine ws_seqN Passes_n83 Passes_n84 rfl rfl rfl ?_
       refine ws_region rfl ?_
       refine wlm 0 1 rfl rfl rfl rfl rfl rfl rfl ?_
       refine wlm 1 2 rfl rfl rfl rfl rfl rfl rfl ?_
       refine wla 2 3 rfl rfl rfl rfl rfl rfl rfl ?_
       refine wla 3 4 rfl rfl rfl rfl rfl rfl rfl ?_
       refine wl_end rfl ?_
       refine nm_sub [(2, _), (3, _)] ⟨rfl, rfl, trivial⟩ ?_
       refine nm_thn ?_
       obtain ⟨M25, hle29, S39, ⟨A1, c1, e1, hr1⟩⟩ := S36.pubrow (i := 0) (H' := [_, _]) rfl rfl (by show _ * 8 ≤ _; first | omega | (simp only [lens]; omega))
       clear S36; subst e1
       replace hsb := hsb.mono (Hp.un_mono hle29 S39.mx)
       replace hsc := hsc.mono (Hp.un_mono hle29 S39.mx)
       replace hsi := hsi.mono (Hp.un_mono hle29 S39.mx)
       replace hso := hso.mono (Hp.un_mono hle29 S39.mx)
       refine ws_ret hC [_, _] rfl rfl ⟨rfl, rfl, trivial⟩ ?_
       refine ⟨_, rfl, _, hle29, (S39.pick [] [] (by decide) trivial), ?_⟩
       obtain rfl : a = 2 * d.crs.length + 1 := by omega
       have e2 : oversL d = oc := ga_ext (by rw [oversL_len, hol]) fun x hx => by rw [oversL_len] at hx; rw [oversL_ga d hx, hov x hx]
       rw [e2]
       exact ⟨_, _, rfl, hr1⟩
end Go.Proofs.Ytefkjfcncpmneaa
