/- Part 6 of the proof of the law BracketTells: the walks through its functions and the plain laws that they need. -/
import Derived.Test.YtlmcnpbkmihjkaaDoorBtZ5
set_option linter.unusedSimpArgs false
set_option linter.unusedVariables false
namespace Go.Proofs.YtlmcnpbkmihjkaaDoor
open Go.ChangeShapes Go.WideShapes Go.ChangeAt Go.RowKit
theorem endOf_back {d : Dg} (h : arcsB d = true) {c k : Nat} {b : Bool} (hc : c < d.crs.length) (hk : k < 4) (hin : entryB d c k = !b) : endOf d (arcAt d c k) b = (c, k) := by
 have hr := arcAt_bd h hc hk
 have hcn : cntP d ((arcAt d c k).toNat : Nat) b (4 * d.crs.length) = 1 := by
  have := arcsB_out h (arcAt d c k).toNat (by omega) (by omega)
  cases b
  ·exact this.1
  ·exact this.2
 rw [show (((arcAt d c k).toNat : Nat) : Int) = arcAt d c k by omega] at hcn
 obtain ⟨j, j1, j2, j3, j4⟩ := cntP_one hcn
 have hme : endP d (arcAt d c k) b (4 * c + k) = true := by rw [endP_at hk]; cases b <;> simp [hin]
 obtain rfl := j3 (4 * c + k) (by omega) hme
 have e := lastP_end hcn
 rw [j4] at e
 rw [← e]
 exact Prod.ext (by dsimp only; omega) (by dsimp only; omega)
theorem endOf_there {d : Dg} (h : arcsB d = true) {a : Int} (ha : 1 ≤ a ∧ a ≤ 2 * (d.crs.length : Int)) (b : Bool) : arcAt d (endOf d a b).1 (endOf d a b).2 = a ∧ entryB d (endOf d a b).1 (endOf d a b).2 = !b := by
 obtain ⟨_, _, _, h4, h5⟩ := endOf_lt h (a := a.toNat) (by omega) (by omega) b
 rw [show ((a.toNat : Nat) : Int) = a by omega] at h4 h5
 exact ⟨h4, h5⟩
theorem nb_sym {d : Dg} (h : arcsB d = true) (x k : Nat) (hx : x < d.crs.length) (hk : k < 4) : ∃ k', k' < 4 ∧ nbC d (nbC d x k) k' = x := by
 have ha := arcAt_bd h hx hk
 obtain ⟨h1, h2, _⟩ := endD h ha (entryB d x k)
 obtain ⟨h3, h4⟩ := endOf_there h ha (entryB d x k)
 refine ⟨(endOf d (arcAt d x k) (entryB d x k)).2, h2, ?_⟩
 show (endOf d (arcAt d (endOf d (arcAt d x k) (entryB d x k)).1 (endOf d (arcAt d x k) (entryB d x k)).2) (entryB d (endOf d (arcAt d x k) (entryB d x k)).1 (endOf d (arcAt d x k) (entryB d x k)).2)).1 = x
 rw [h3, h4, endOf_back h hx hk (by cases entryB d x k <;> rfl)]
theorem pcs {d : Dg} (h : arcsB d = true) : PcI d d.crs.length (pcsN d d.crs.length) := pcsN_pi h (nb_sym h) _ (Nat.le_refl _)
/-- The map from crossings to pieces. -/
def putP (i : Nat) (p : List Int) (es : List (Int × Int)) : Nat → List (Int × Int)
 | 0 => es
 | k + 1 => mp (ga p k) (i : Int) (putP i p es k)
def pmapN (pss : List (List Int)) : Nat → List (Int × Int)
 | 0 => []
 | i + 1 => putP i (ga pss i) (pmapN pss i) (ga pss i).length
theorem putP_mg (i : Nat) (p : List Int) (es : List (Int × Int)) (k : Nat) (hk : k ≤ p.length) (y : Int) : (y ∈ p.take k → mg y (putP i p es k) = some (i : Int)) ∧ (y ∉ p.take k → mg y (putP i p es k) = mg y es) := by
 induction k with
 | zero => exact ⟨fun h => by simp at h, fun _ => rfl⟩
 | succ k ih =>
  have ih := ih (by omega)
  rw [take_ga _ _ (by omega), putP, mg_mp]
  constructor
  ·intro h
   by_cases e : y = ga p k
   ·rw [if_pos e]
   ·rw [if_neg e]
    rcases List.mem_append.1 h with h | h
    ·exact ih.1 h
    ·exact absurd (List.mem_singleton.1 h) e
  ·intro h
   rw [List.mem_append, List.mem_singleton] at h
   rw [if_neg (fun e => h (.inr e))]
   exact ih.2 (fun e => h (.inl e))
theorem pmapN_mg {pss : List (List Int)} (hd : ∀ i j, i < pss.length → j < pss.length → ∀ y, y ∈ ga pss i → y ∈ ga pss j → i = j) (m : Nat) (hm : m ≤ pss.length) {i : Nat} (hi : i < m) {y : Int} (hy : y ∈ ga pss i) : mg y (pmapN pss m) = some (i : Int) := by
 induction m with
 | zero => omega
 | succ m ih =>
  have h := putP_mg m (ga pss m) (pmapN pss m) (ga pss m).length (Nat.le_refl _) y
  rw [List.take_length] at h
  rw [pmapN]
  by_cases e : y ∈ ga pss m
  ·rw [h.1 e, hd i m (by omega) (by omega) y hy e]
  ·rw [h.2 e]
   exact ih (by omega) (by
    rcases Nat.lt_or_ge i m with h1 | h1
    ·exact h1
    ·obtain rfl : i = m := by omega
     exact absurd hy e)
def pmap (d : Dg) : List (Int × Int) := pmapN (pcsL d) (pcsL d).length
/-- The number of a crossing's piece. -/
def pcI (d : Dg) (x : Nat) : Nat := ((mg (x : Int) (pmap d)).getD 0).toNat
theorem pcI_at {d : Dg} (h : arcsB d = true) {i x : Nat} (hi : i < (pcsL d).length) (hx : (x : Int) ∈ ga (pcsL d) i) : mg (x : Int) (pmap d) = some (i : Int) ∧ pcI d x = i := by
 have e := pmapN_mg (pcs h).dis _ (Nat.le_refl _) hi hx
 refine ⟨e, ?_⟩
 unfold pcI
 unfold pmap
 rw [show mg (x : Int) (pmapN (pcsL d) (pcsL d).length) = some (i : Int) from e]
 rfl
theorem pcI_lt {d : Dg} (h : arcsB d = true) {x : Nat} (hx : x < d.crs.length) : pcI d x < (pcsL d).length ∧ (x : Int) ∈ ga (pcsL d) (pcI d x) ∧ (mg (x : Int) (pmap d)).getD 0 = (pcI d x : Int) := by
 obtain ⟨i, hi, hm⟩ := ((pcs h).see x hx).1 ((pcs h).cov x hx)
 have hi' : i < (pcsL d).length := hi
 have hm' : (x : Int) ∈ ga (pcsL d) i := hm
 obtain ⟨h1, h2⟩ := pcI_at h hi' hm'
 rw [h2]
 exact ⟨hi', hm', by rw [h1]; rfl⟩
def fcN (d : Dg) : Nat → List Int
 | 0 => List.replicate (pcsL d).length 0
 | k + 1 => (fcN d k).set (pcI d (fcC d k)) (ga (fcN d k) (pcI d (fcC d k)) + 1)
theorem fcN_len (d : Dg) (k : Nat) : (fcN d k).length = (pcsL d).length := by
 induction k with
 | zero => exact List.length_replicate
 | succ k ih => rw [fcN, List.length_set, ih]
theorem fcN_bd (d : Dg) (k j : Nat) : 0 ≤ ga (fcN d k) j ∧ ga (fcN d k) j ≤ k := by
 induction k generalizing j with
 | zero =>
  by_cases h : j < (pcsL d).length
  ·rw [fcN, ga_rep _ _ _ h]; simp
  ·rw [fcN, show ga (List.replicate (pcsL d).length (0 : Int)) j = 0 from by unfold ga; simp [h]]; exact ⟨Int.le_refl _, Int.le_refl _⟩
 | succ k ih =>
  rw [fcN]
  have h1 := ih j
  have h2 := ih (pcI d (fcC d k))
  by_cases e : pcI d (fcC d k) = j
  ·by_cases hl : j < (fcN d k).length
   ·subst e; rw [ga_set _ _ _ _ hl, if_pos rfl]; omega
   ·rw [List.set_eq_of_length_le (by omega)]; omega
  ·rw [ga_set_ne _ _ _ _ e]; omega
theorem nodup_le {α : Type} [DecidableEq α] {xs ys : List α} (h : xs.Nodup) (hs : ∀ y ∈ xs, y ∈ ys) : xs.length ≤ ys.length := by
 induction xs generalizing ys with
 | nil => exact Nat.zero_le _
 | cons x xs ih =>
  rw [List.nodup_cons] at h
  have hx := hs x (by simp)
  have h1 := ih h.2 (ys := ys.erase x) (fun y hy => (List.mem_erase_of_ne (fun (e : y = x) => h.1 (by rw [← e]; exact hy))).2 (hs y (by simp [hy])))
  rw [List.length_erase_of_mem hx] at h1
  have := List.length_pos_of_mem hx
  rw [List.length_cons]
  omega
def planP (d : Dg) : Bool := (List.range (pcsL d).length).all fun i => decide (ga (fcN d (facesL d).length) i = ((ga (pcsL d) i).length : Int) + 2)
theorem planP_t {d : Dg} (h : ∀ i, i < (pcsL d).length → ga (fcN d (facesL d).length) i = ((ga (pcsL d) i).length : Int) + 2) : planP d = true := by
 unfold planP
 rw [List.all_eq_true]
 intro p hp
 exact decide_eq_true (h p (List.mem_range.1 hp))
theorem planP_f {d : Dg} {i : Nat} (hi : i < (pcsL d).length) (h : ¬ ga (fcN d (facesL d).length) i = ((ga (pcsL d) i).length : Int) + 2) : planP d = false := by
 unfold planP
 rw [List.all_eq_false]
 exact ⟨i, List.mem_range.2 hi, by simpa using h⟩
theorem pcsL_bd {d : Dg} (h : arcsB d = true) {i : Nat} (hi : i < (pcsL d).length) : (ga (pcsL d) i).length ≤ d.crs.length ∧ ∀ y ∈ ga (pcsL d) i, 0 ≤ y ∧ y < (d.crs.length : Int) := by
 obtain ⟨h1, c0, _, _, h2⟩ := (pcs h).el i hi
 have hb : ∀ y ∈ ga (pcsL d) i, 0 ≤ y ∧ y < (d.crs.length : Int) := fun y hy => by obtain ⟨z, rfl, hz, _⟩ := h2 y hy; omega
 refine ⟨?_, hb⟩
 have h3 := nodup_le (ys := (List.range d.crs.length).map fun x : Nat => (x : Int)) h1 (fun y hy => by
  obtain ⟨z, rfl, hz, _⟩ := h2 y hy
  exact List.mem_map.2 ⟨z, List.mem_range.2 hz, rfl⟩)
 rw [List.length_map, List.length_range] at h3
 exact h3
noncomputable def Planar_n0 : Code := Tryd.f35.body.getD .skip
noncomputable def Planar_n1 : Code := cL Planar_n0
noncomputable def Planar_n2 : Code := cR Planar_n0
noncomputable def Planar_n3 : Code := cL Planar_n2
noncomputable def Planar_n4 : Code := cR Planar_n2
noncomputable def Planar_n5 : Code := cL Planar_n4
noncomputable def Planar_n6 : Code := cR Planar_n4
noncomputable def Planar_n7 : Code := cL Planar_n6
noncomputable def Planar_n8 : Code := cR Planar_n6
noncomputable def Planar_n9 : Code := cL Planar_n7
noncomputable def Planar_n10 : Code := cR Planar_n7
noncomputable def Planar_n11 : Code := cL Planar_n10
noncomputable def Planar_n12 : Code := cL Planar_n11
noncomputable def Planar_n13 : Code := cL Planar_n12
noncomputable def Planar_n14 : Code := cR Planar_n12
noncomputable def Planar_n15 : Code := cL Planar_n14
noncomputable def Planar_n16 : Code := cR Planar_n14
noncomputable def Planar_n17 : Code := cL Planar_n15
noncomputable def Planar_n18 : Code := cR Planar_n15
noncomputable def Planar_n19 : Code := cL Planar_n16
noncomputable def Planar_n20 : Code := cR Planar_n16
noncomputable def Planar_n21 : Code := cL Planar_n19
noncomputable def Planar_n22 : Code := cL Planar_n21
noncomputable def Planar_n23 : Code := cR Planar_n21
noncomputable def Planar_n24 : Code := cL Planar_n23
noncomputable def Planar_n25 : Code := cR Planar_n23
noncomputable def Planar_n26 : Code := cL Planar_n25
noncomputable def Planar_n27 : Code := cL Planar_n26
noncomputable def Planar_n28 : Code := cL Planar_n27
noncomputable def Planar_n29 : Code := cR Planar_n27
noncomputable def Planar_n30 : Code := cL Planar_n29
noncomputable def Planar_n31 : Code := cR Planar_n29
noncomputable def Planar_n32 : Code := cL Planar_n30
noncomputable def Planar_n33 : Code := cR Planar_n30
noncomputable def Planar_n34 : Code := cL Planar_n31
noncomputable def Planar_n35 : Code := cR Planar_n31
noncomputable def Planar_n36 : Code := cL Planar_n34
noncomputable def Planar_n37 : Code := cL Planar_n36
noncomputable def Planar_n38 : Code := cR Planar_n36
noncomputable def Planar_n39 : Code := cL Planar_n8
noncomputable def Planar_n40 : Code := cR Planar_n8
noncomputable def Planar_n41 : Code := cL Planar_n40
noncomputable def Planar_n42 : Code := cR Planar_n40
noncomputable def Planar_n43 : Code := cL Planar_n41
noncomputable def Planar_n44 : Code := cR Planar_n41
noncomputable def Planar_n45 : Code := cL Planar_n44
noncomputable def Planar_n46 : Code := cL Planar_n45
noncomputable def Planar_n47 : Code := cL Planar_n46
noncomputable def Planar_n48 : Code := cR Planar_n46
noncomputable def Planar_n49 : Code := cL Planar_n48
noncomputable def Planar_n50 : Code := cR Planar_n48
noncomputable def Planar_n51 : Code := cL Planar_n49
noncomputable def Planar_n52 : Code := cR Planar_n49
noncomputable def Planar_n53 : Code := cL Planar_n50
noncomputable def Planar_n54 : Code := cR Planar_n50
noncomputable def Planar_n55 : Code := cL Planar_n53
noncomputable def Planar_n56 : Code := cL Planar_n55
noncomputable def Planar_n57 : Code := cR Planar_n55
noncomputable def Planar_n58 : Code := cL Planar_n42
noncomputable def Planar_n59 : Code := cR Planar_n42
noncomputable def Planar_n60 : Code := cL Planar_n58
noncomputable def Planar_n61 : Code := cR Planar_n58
noncomputable def Planar_n62 : Code := cL Planar_n61
noncomputable def Planar_n63 : Code := cL Planar_n62
noncomputable def Planar_n64 : Code := cL Planar_n63
noncomputable def Planar_n65 : Code := cR Planar_n63
noncomputable def Planar_n66 : Code := cL Planar_n65
noncomputable def Planar_n67 : Code := cR Planar_n65
noncomputable def Planar_n68 : Code := cL Planar_n66
noncomputable def Planar_n69 : Code := cR Planar_n66
noncomputable def Planar_n70 : Code := cL Planar_n67
noncomputable def Planar_n71 : Code := cR Planar_n67
noncomputable def Planar_n72 : Code := cL Planar_n70
noncomputable def Planar_n73 : Code := cL Planar_n72
noncomputable def Planar_n74 : Code := cR Planar_n72
noncomputable def Planar_n75 : Code := cL Planar_n74
noncomputable def Planar_n76 : Code := cR Planar_n74
noncomputable def Planar_n77 : Code := cL Planar_n76
noncomputable def Planar_n78 : Code := cR Planar_n76
noncomputable def Planar_n79 : Code := cL Planar_n77
noncomputable def Planar_n80 : Code := cR Planar_n77
noncomputable def Planar_n81 : Code := cL Planar_n59
noncomputable def Planar_n82 : Code := cR Planar_n59
set_option maxHeartbeats 1000000 in
set_option maxRecDepth 10000 in
theorem Planar_t {w : World} {M : Hp} {X : Fr} (d : Dg) {gsh : Nat} {cA iA oA : Option Addr} {cc ic oc : Nat} (hsb : BxM M gsh 53 [.slice cA d.crs.length cc, .int .i64 d.loops, .slice iA (tabL d false (4 * d.crs.length)).length ic, .slice oA (tabL d true (4 * d.crs.length)).length oc]) (hsc : RdA cdCr M cA cc d.crs) (hsi : RdA cdPl M iA ic (tabL d false (4 * d.crs.length))) (hso : RdA cdPl M oA oc (tabL d true (4 * d.crs.length))) (hn : d.crs.length ≤ 16) (hab : arcsB d = true) (S : SH w M X []) : Ct Tryd.prog 35 [.pointer (some ⟨gsh, 0, none⟩)] w M X (fun u _ => u = .bool (planP d)) := by
 unfold Ct
 refine calls_in (b := Planar_n0) Tryd.func35 rfl Tryd.ntmps35 rfl (fun C hC => ?_)
 refine ws_sub [(0, _)] ⟨rfl, trivial⟩ ?_
 refine ws_seqN Planar_n1 Planar_n2 rfl rfl rfl ?_
 refine ws_region rfl ?_
 refine wla 0 1 rfl rfl rfl rfl rfl rfl rfl ?_
 refine wl_end rfl ?_
 refine nm_sub [(0, _)] ⟨rfl, trivial⟩ ?_
 refine nm_thn ?_
 refine ws_seqN Planar_n3 Planar_n4 rfl rfl rfl ?_
 refine ws_region rfl ?_
 refine wlo 0 1 rfl rfl rfl (wo_makeMap Int Int (Value.int .i64) (Value.int .i64) rfl rfl rfl S ?_)
 intro gm1 w1 S1; clear S
 refine wla 1 2 rfl rfl rfl rfl rfl rfl rfl ?_
 refine wl_end rfl ?_
 refine nm_sub [(0, _), (3, _)] ⟨rfl, rfl, trivial⟩ ?_
 refine nm_thn ?_
 refine ws_seqN Planar_n5 Planar_n6 rfl rfl rfl ?_
 refine ws_region rfl ?_
 refine wlm 0 1 rfl rfl rfl rfl rfl rfl rfl ?_
 refine wlo 1 2 rfl rfl rfl (wo_ct rfl rfl rfl rfl rfl rfl rfl cf51 S1 (Pieces_t d (hsb.mono (Hp.le_un _ _)) (hsc.mono (Hp.le_un _ _)) (hsi.mono (Hp.le_un _ _)) (hso.mono (Hp.le_un _ _)) hn hab S1.lend) ?_)
 intro vw2 w2 M1 hle1 S2 hRw2; clear S1
 replace hsb := hsb.mono hle1
 replace hsc := hsc.mono hle1
 replace hsi := hsi.mono hle1
 replace hso := hso.mono hle1
 obtain ⟨A1, c1, vs1, rfl, hr1, hd1⟩ := hRw2
 have hlenpcsL := hd1.1
 refine wla 2 3 rfl rfl rfl rfl rfl rfl rfl ?_
 refine wl_end rfl ?_
 refine nm_sub [(0, _), (3, _), (4, _)] ⟨rfl, rfl, rfl, trivial⟩ ?_
 refine nm_thn ?_
 refine ws_seqN Planar_n7 Planar_n8 rfl rfl rfl ?_
 refine ws_seqN Planar_n9 Planar_n10 rfl rfl rfl ?_
 refine ws_region rfl ?_
 refine wlm 0 1 rfl rfl rfl rfl rfl rfl rfl ?_
 refine wlo 1 2 rfl rfl rfl (wo_run rfl rfl (run_len rfl rfl rfl rfl rfl rfl Tryd.underlying98) ?_)
 refine wlm 2 3 rfl rfl rfl rfl rfl rfl rfl ?_
 refine wl_end rfl ?_
 refine nm_thn ?_
 refine ws_blockN Planar_n11 0 rfl rfl rfl ?_
 refine ws_loopE (fun mx_ ax_ wx_ => ∃ (i : Nat) (es : List (Int × Int)), mx_ = (pcsL d).length - i ∧ Env 75 [(0, .pointer (some ⟨gsh, 0, none⟩)), (3, .map (some gm1)), (4, .slice A1 vs1.length c1), (17, .slice A1 vs1.length c1), (18, .int .i64 (vs1.length : Int)), (19, .int .i64 (i : Int))] ax_ ∧ SH wx_ M1 X [Rs.mp (Value.int .i64) (Value.int .i64) gm1 es] ∧ i ≤ (pcsL d).length ∧ es = pmapN (pcsL d) i) rfl ?_ ?_
 ·intro ax_ hax_
  refine ⟨_, ⟨0, [], rfl, hax_.sub ⟨rfl, rfl, rfl, rfl, rfl, rfl, trivial⟩, S2.pick [0] [_] (by decide) ⟨rfl, trivial⟩, ?hq1f0, ?hq1f1⟩⟩
  case hq1f0 => omega
  case hq1f1 => rfl
 ·rintro m2 a1 w3 ⟨i, es, rfl, he1, S3, hi, hes⟩
  clear S2
  refine ws_in he1 (c := Planar_n12) rfl ?_
  clear he1 a1
  have hpl := pcsN_many d d.crs.length
  replace hpl : (pcsL d).length ≤ d.crs.length := hpl
  refine ws_seqN Planar_n13 Planar_n14 rfl rfl rfl ?_
  refine ws_region rfl ?_
  refine wlo 0 1 rfl rfl rfl (wo_run rfl rfl (run_lss rfl rfl rfl) ?_)
  refine wl_end rfl ?_
  refine nm_thn ?_
  refine ws_seqN Planar_n15 Planar_n16 rfl rfl rfl ?_
  refine ws_condN Planar_n17 Planar_n18 rfl rfl rfl rfl (fun hb20 => ?_) (fun hb20 => ?_)
  ·replace hb20 := of_decide_eq_true hb20
   refine ws_skip rfl ?_
   refine nm_sub [(0, _), (3, _), (4, _), (17, _), (18, _), (19, _)] ⟨rfl, rfl, rfl, rfl, rfl, rfl, trivial⟩ ?_
   refine nm_thn ?_
   refine ws_seqN Planar_n19 Planar_n20 rfl rfl rfl ?_
   refine ws_blockN Planar_n21 1 rfl rfl rfl ?_
   refine ws_seqN Planar_n22 Planar_n23 rfl rfl rfl ?_
   refine ws_region rfl ?_
   refine wlm 0 1 rfl rfl rfl rfl rfl rfl rfl ?_
   refine wlo 1 2 rfl rfl rfl (wo_run rfl rfl (run_indexM (C := (cdV 46)) i rfl rfl rfl sl98 (by first | rfl | omega) hr1 (by first | omega | (simp only [lens]; omega))) ?_)
   obtain ⟨hn1, hr2⟩ := hd1.2 i (by first | omega | (simp only [lens]; omega))
   have rmhr2 : (ga (pcsL d) i).length * 8 ≤ 140737488355328 := hr2.room
   refine wlo 2 3 rfl rfl rfl (wo_run rfl rfl (run_load1 rfl rfl Tryd.underlying46 rfl (hr1.cell S3.m (i := i) (by first | omega | (simp only [lens]; omega)) 0 rfl (congrArg (fun n => some (Value.slice _ n _)) hn1))) ?_)
   refine wla 3 4 rfl rfl rfl rfl rfl rfl rfl ?_
   refine wla 4 5 rfl rfl rfl rfl rfl rfl rfl ?_
   refine wl_end rfl ?_
   refine nm_sub [(0, _), (3, _), (4, _), (17, _), (18, _), (19, _), (5, _), (6, _)] ⟨rfl, rfl, rfl, rfl, rfl, rfl, rfl, rfl, trivial⟩ ?_
   refine nm_thn ?_
   refine ws_seqN Planar_n24 Planar_n25 rfl rfl rfl ?_
   refine ws_region rfl ?_
   refine wlm 0 1 rfl rfl rfl rfl rfl rfl rfl ?_
   refine wlo 1 2 rfl rfl rfl (wo_run rfl rfl (run_len rfl rfl rfl rfl rfl rfl Tryd.underlying46) ?_)
   refine wlm 2 3 rfl rfl rfl rfl rfl rfl rfl ?_
   refine wl_end rfl ?_
   refine nm_sub [(0, _), (3, _), (4, _), (17, _), (18, _), (19, _), (5, _), (24, _), (25, _), (26, _)] ⟨rfl, rfl, rfl, rfl, rfl, rfl, rfl, rfl, rfl, rfl, trivial⟩ ?_
   refine nm_thn ?_
   refine ws_blockN Planar_n26 2 rfl rfl rfl ?_
   refine ws_loopE (fun mx_ ax_ wx_ => ∃ (k : Nat) (es2 : List (Int × Int)), mx_ = (ga (pcsL d) i).length - k ∧ Env 75 [(0, .pointer (some ⟨gsh, 0, none⟩)), (3, .map (some gm1)), (4, .slice A1 vs1.length c1), (17, .slice A1 vs1.length c1), (18, .int .i64 (vs1.length : Int)), (19, .int .i64 (i : Int)), (5, .int .i64 (i : Int)), (24, .slice ((ga vs1 i).A) (ga (pcsL d) i).length ((ga vs1 i).c)), (25, .int .i64 ((ga (pcsL d) i).length : Int)), (26, .int .i64 (k : Int))] ax_ ∧ SH wx_ M1 X [Rs.mp (Value.int .i64) (Value.int .i64) gm1 es2] ∧ k ≤ (ga (pcsL d) i).length ∧ es2 = putP i (ga (pcsL d) i) es k) rfl ?_ ?_
   ·intro ax_ hax_
    refine ⟨_, ⟨0, es, rfl, hax_.sub ⟨rfl, rfl, rfl, rfl, rfl, rfl, rfl, rfl, rfl, rfl, trivial⟩, S3.pick [0] [_] (by decide) ⟨rfl, trivial⟩, ?hq2f0, ?hq2f1⟩⟩
    case hq2f0 => omega
    case hq2f1 => rfl
   ·rintro m3 a2 w4 ⟨k, es2, rfl, he2, S4, hk, hes2⟩
    clear S3
    refine ws_in he2 (c := Planar_n27) rfl ?_
    clear he2 a2
    have hpb := pcsL_bd hab (i := i) (by omega)
    refine ws_seqN Planar_n28 Planar_n29 rfl rfl rfl ?_
    refine ws_region rfl ?_
    refine wlo 0 1 rfl rfl rfl (wo_run rfl rfl (run_lss rfl rfl rfl) ?_)
    refine wl_end rfl ?_
    refine nm_thn ?_
    refine ws_seqN Planar_n30 Planar_n31 rfl rfl rfl ?_
    refine ws_condN Planar_n32 Planar_n33 rfl rfl rfl rfl (fun hb27 => ?_) (fun hb27 => ?_)
    ·replace hb27 := of_decide_eq_true hb27
     refine ws_skip rfl ?_
     refine nm_sub [(0, _), (3, _), (4, _), (17, _), (18, _), (19, _), (5, _), (24, _), (25, _), (26, _)] ⟨rfl, rfl, rfl, rfl, rfl, rfl, rfl, rfl, rfl, rfl, trivial⟩ ?_
     refine nm_thn ?_
     refine ws_seqN Planar_n34 Planar_n35 rfl rfl rfl ?_
     refine ws_blockN Planar_n36 3 rfl rfl rfl ?_
     refine ws_seqN Planar_n37 Planar_n38 rfl rfl rfl ?_
     refine ws_region rfl ?_
     refine wlo 0 1 rfl rfl rfl (wo_run rfl rfl (run_indexM (C := cdInt) k rfl rfl rfl sl46 (by first | rfl | omega) hr2 (by first | omega | (simp only [lens]; omega))) ?_)
     refine wlo 1 2 rfl rfl rfl (wo_run rfl rfl (run_load1 rfl rfl Tryd.underlying3 rfl (hr2.cell S4.m (i := k) (by first | omega | (simp only [lens]; omega)) 0 rfl rfl)) ?_)
     refine wla 2 3 rfl rfl rfl rfl rfl rfl rfl ?_
     refine wl_end rfl ?_
     refine nm_sub [(0, _), (3, _), (4, _), (17, _), (18, _), (19, _), (5, _), (24, _), (25, _), (26, _), (8, _)] ⟨rfl, rfl, rfl, rfl, rfl, rfl, rfl, rfl, rfl, rfl, rfl, trivial⟩ ?_
     refine nm_thn ?_
     refine ws_region rfl ?_
     refine wlm 0 1 rfl rfl rfl rfl rfl rfl rfl ?_
     refine wlm 1 2 rfl rfl rfl rfl rfl rfl rfl ?_
     refine wlm 2 3 rfl rfl rfl rfl rfl rfl rfl ?_
     refine wlo 3 4 rfl rfl rfl (wo_mapUpdate (kc := Value.int .i64) (vc := Value.int .i64) (es := es2) (k := (ga (ga (pcsL d) i) k)) (e := (i : Int)) (i := 0) (H' := [_]) (.inl rfl) rfl S4 rfl rfl rfl rfl Tryd.underlying37 mk3 rfl ?_)
     intro w5 S5; clear S4
     refine wl_end rfl ?_
     refine nm_blk ?_
     refine nm_sub [(0, _), (3, _), (4, _), (17, _), (18, _), (19, _), (5, _), (24, _), (25, _), (26, _)] ⟨rfl, rfl, rfl, rfl, rfl, rfl, rfl, rfl, rfl, rfl, trivial⟩ ?_
     refine nm_thn ?_
     refine ws_region rfl ?_
     refine wlo 0 1 rfl rfl rfl (wo_run rfl rfl (run_add rfl rfl rfl (by first | omega | (simp only [lens]; omega))) ?_)
     refine wlm 1 2 rfl rfl rfl rfl rfl rfl rfl ?_
     refine wl_end rfl ?_
     refine nm_lp ?_
     intro ax_ hax_
     refine ⟨_, ?hq3m, ⟨k + 1, _, rfl, hax_.sub ⟨rfl, rfl, rfl, rfl, rfl, rfl, rfl, rfl, rfl, rfl, trivial⟩, S5.pick [0] [_] (by decide) ⟨rfl, trivial⟩, ?hq3f0, ?hq3f1⟩⟩
     case hq3f0 => omega
     case hq3f1 => (rw [hes2]; rfl)
     case hq3m => omega
    ·replace hb27 := of_decide_eq_false hb27
     refine ws_exit rfl rfl ?_
     refine nm_blk ?_
     refine nm_sub [(0, _), (3, _), (4, _), (17, _), (18, _), (19, _)] ⟨rfl, rfl, rfl, rfl, rfl, rfl, trivial⟩ ?_
     refine nm_thn ?_
     refine ws_region rfl ?_
     refine wlo 0 1 rfl rfl rfl (wo_run rfl rfl (run_add rfl rfl rfl (by first | omega | (simp only [lens]; omega))) ?_)
     refine wlm 1 2 rfl rfl rfl rfl rfl rfl rfl ?_
     refine wl_end rfl ?_
     refine nm_lp ?_
     intro ax_ hax_
     refine ⟨_, ?hq4m, ⟨i + 1, _, rfl, hax_.sub ⟨rfl, rfl, rfl, rfl, rfl, rfl, trivial⟩, S4.pick [0] [_] (by decide) ⟨rfl, trivial⟩, ?hq4f0, ?hq4f1⟩⟩
     case hq4f0 => omega
     case hq4f1 => (obtain rfl : k = (ga (pcsL d) i).length := (by omega); rw [hes2, hes]; rfl)
     case hq4m => omega
  ·replace hb20 := of_decide_eq_false hb20
   have hesd : es = pmap d := by rw [hes, show i = (pcsL d).length by omega]; rfl
   have hpl0 := pcsN_many d d.crs.length
   replace hpl0 : (pcsL d).length ≤ d.crs.length := hpl0
   refine ws_exit rfl rfl ?_
   refine nm_sub [(0, _), (3, _), (4, _)] ⟨rfl, rfl, rfl, trivial⟩ ?_
   refine nm_thn ?_
   refine ws_seqN Planar_n39 Planar_n40 rfl rfl rfl ?_
   refine ws_region rfl ?_
   refine wlm 0 1 rfl rfl rfl rfl rfl rfl rfl ?_
   refine wlo 1 2 rfl rfl rfl (wo_run rfl rfl (run_len rfl rfl rfl rfl rfl rfl Tryd.underlying98) ?_)
   refine wlo 2 3 rfl rfl rfl (wo_make (C := cdInt) vs1.length rfl rfl rfl rfl rfl sl46 (by first | rfl | omega) (by show _ * 8 ≤ _; first | omega | (simp only [lens]; omega)) S3 ?_)
   intro vr1 w6 S6; clear S3
   refine wla 3 4 rfl rfl rfl rfl rfl rfl rfl ?_
   refine wl_end rfl ?_
   refine nm_sub [(0, _), (3, _), (4, _), (9, _)] ⟨rfl, rfl, rfl, rfl, trivial⟩ ?_
   refine nm_thn ?_
   refine ws_seqN Planar_n41 Planar_n42 rfl rfl rfl ?_
   refine ws_seqN Planar_n43 Planar_n44 rfl rfl rfl ?_
   refine ws_region rfl ?_
   refine wlm 0 1 rfl rfl rfl rfl rfl rfl rfl ?_
   refine wlo 1 2 rfl rfl rfl (wo_ct rfl rfl rfl rfl rfl rfl rfl cf52 S6 (InF.Faces_t d hsb hsc hsi hso hn hab S6.lend) ?_)
   intro vw7 w7 M2 hle4 S7 hRw7; clear S6
   replace hsb := hsb.mono hle4
   replace hsc := hsc.mono hle4
   replace hsi := hsi.mono hle4
   replace hso := hso.mono hle4
   replace hr1 := hr1.mono hle4
   replace hd1 := hd1.mono hle4
   obtain ⟨A2, c2, vs2, rfl, hr3, hd2⟩ := hRw7
   have hlenfacesL := hd2.1
   refine wlo 2 3 rfl rfl rfl (wo_run rfl rfl (run_len rfl rfl rfl rfl rfl rfl Tryd.underlying92) ?_)
   refine wlm 3 4 rfl rfl rfl rfl rfl rfl rfl ?_
   refine wl_end rfl ?_
   refine nm_sub [(0, _), (3, _), (4, _), (9, _), (39, _), (40, _), (41, _)] ⟨rfl, rfl, rfl, rfl, rfl, rfl, rfl, trivial⟩ ?_
   refine nm_thn ?_
   refine ws_blockN Planar_n45 4 rfl rfl rfl ?_
   refine ws_loopE (fun mx_ ax_ wx_ => ∃ (k : Nat) (fs : List Int) (vrf : Value), mx_ = (facesL d).length - k ∧ Env 75 [(0, .pointer (some ⟨gsh, 0, none⟩)), (3, .map (some gm1)), (4, .slice A1 vs1.length c1), (9, vrf), (39, .slice A2 vs2.length c2), (40, .int .i64 (vs2.length : Int)), (41, .int .i64 (k : Int))] ax_ ∧ SH wx_ M2 X [Rs.row cdInt vrf fs, Rs.mp (Value.int .i64) (Value.int .i64) gm1 es] ∧ k ≤ (facesL d).length ∧ fs = fcN d k) rfl ?_ ?_
   ·intro ax_ hax_
    refine ⟨_, ⟨0, _, _, rfl, hax_.sub ⟨rfl, rfl, rfl, rfl, rfl, rfl, rfl, trivial⟩, S7.pick [0, 1] [_, _] (by decide) ⟨rfl, rfl, trivial⟩, ?hq5f0, ?hq5f1⟩⟩
    case hq5f0 => omega
    case hq5f1 => (rw [hlenpcsL]; rfl)
   ·rintro m4 a3 w8 ⟨k, fs, vrf, rfl, he3, S8, hk, hfs⟩
    clear S7
    refine ws_in he3 (c := Planar_n46) rfl ?_
    clear he3 a3
    have hfm := facesL_many d
    have hfl2 : fs.length = (pcsL d).length := by rw [hfs, fcN_len]
    refine ws_seqN Planar_n47 Planar_n48 rfl rfl rfl ?_
    refine ws_region rfl ?_
    refine wlo 0 1 rfl rfl rfl (wo_run rfl rfl (run_lss rfl rfl rfl) ?_)
    refine wl_end rfl ?_
    refine nm_thn ?_
    refine ws_seqN Planar_n49 Planar_n50 rfl rfl rfl ?_
    refine ws_condN Planar_n51 Planar_n52 rfl rfl rfl rfl (fun hb42 => ?_) (fun hb42 => ?_)
    ·replace hb42 := of_decide_eq_true hb42
     obtain ⟨hh0, hok⟩ := hd0_ok (d := d) (k := k) (by omega)
     have hfc := fcC_lt hab (k := k) (by omega)
     have hpi := pcI_lt hab hfc
     obtain ⟨hpi1, hpi2, hpi3⟩ := hpi
     rw [← hesd] at hpi3
     have hfb := fcN_bd d k (pcI d (fcC d k))
     rw [← hfs] at hfb
     refine ws_skip rfl ?_
     refine nm_sub [(0, _), (3, _), (4, _), (9, _), (39, _), (40, _), (41, _)] ⟨rfl, rfl, rfl, rfl, rfl, rfl, rfl, trivial⟩ ?_
     refine nm_thn ?_
     refine ws_seqN Planar_n53 Planar_n54 rfl rfl rfl ?_
     refine ws_blockN Planar_n55 5 rfl rfl rfl ?_
     refine ws_seqN Planar_n56 Planar_n57 rfl rfl rfl ?_
     refine ws_region rfl ?_
     refine wlo 0 1 rfl rfl rfl (wo_run rfl rfl (run_indexM (C := (cdV 97)) k rfl rfl rfl sl92 (by first | rfl | omega) hr3 (by first | omega | (simp only [lens]; omega))) ?_)
     obtain ⟨hn2, hr4⟩ := hd2.2 k (by first | omega | (simp only [lens]; omega))
     have rmhr4 : (ga (facesL d) k).length * 16 ≤ 140737488355328 := hr4.room
     refine wlo 1 2 rfl rfl rfl (wo_run rfl rfl (run_load1 rfl rfl Tryd.underlying97 rfl (hr3.cell S8.m (i := k) (by first | omega | (simp only [lens]; omega)) 0 rfl (congrArg (fun n => some (Value.slice _ n _)) hn2))) ?_)
     refine wla 2 3 rfl rfl rfl rfl rfl rfl rfl ?_
     refine wl_end rfl ?_
     refine nm_sub [(0, _), (3, _), (4, _), (9, _), (39, _), (40, _), (41, _), (11, _)] ⟨rfl, rfl, rfl, rfl, rfl, rfl, rfl, rfl, trivial⟩ ?_
     refine nm_thn ?_
     refine ws_region rfl ?_
     refine wlm 0 1 rfl rfl rfl rfl rfl rfl rfl ?_
     refine wlm 1 2 rfl rfl rfl rfl rfl rfl rfl ?_
     refine wlm 2 3 rfl rfl rfl rfl rfl rfl rfl ?_
     refine wlm 3 4 rfl rfl rfl rfl rfl rfl rfl ?_
     refine wlo 4 5 rfl rfl rfl (wo_run rfl rfl (run_indexM (C := cdDa) 0 rfl rfl rfl sl97 (by first | rfl | omega) hr4 (by first | omega | (simp only [lens]; omega))) ?_)
     refine wlo 5 6 rfl rfl rfl (wo_run rfl rfl (run_loadN (us := [_, _]) rfl rfl Tryd.underlying96 rfl sz96 (hr4.cellsAt S8.m (e := 0) (by first | omega | (simp only [lens]; omega)) (j := 0) ⟨rfl, rfl, trivial⟩)) ?_)
     refine wlo 6 7 rfl rfl rfl (wo_cq rfl rfl rfl rfl rfl rfl rfl cf53 S8 (Head_q d (ga (ga (facesL d) k) 0) (hsb.mono (Hp.le_un _ _)) (hsc.mono (Hp.le_un _ _)) (hsi.mono (Hp.le_un _ _)) (hso.mono (Hp.le_un _ _)) (by first | assumption | omega) hab (by first | assumption | omega) S8.lend) ?_)
     rintro _ w9 S9 rfl; clear S8
     refine wlo 7 8 rfl rfl rfl (wo_run rfl rfl (run_field0 rfl rfl Tryd.underlying102 rfl Tryd.underlying3 rfl rfl) ?_)
     refine wlo 8 9 rfl rfl rfl (wo_run rfl rfl (run_lookup (kc := Value.int .i64) (vc := Value.int .i64) (es := es) (k := ((endOf d (ga (ga (facesL d) k) 0).a (ga (ga (facesL d) k) 0).b).1 : Int)) (zv := 0) (i := 1) rfl rfl rfl Tryd.underlying37 mk3 zr3 S9 rfl) ?_)
     refine wl_eq 53 (.int .i64 (pcI d (fcC d k) : Int)) rfl (int_eq hpi3) ?_
     refine wlo 9 10 rfl rfl rfl (wo_run rfl rfl (run_indexR (C := cdInt) (i := 0) (pcI d (fcC d k)) rfl rfl rfl sl46 S9 rfl (by first | rfl | omega) (by first | omega | (simp only [lens]; omega))) ?_)
     refine wlo 10 11 rfl rfl rfl (wo_run rfl rfl (run_load1 rfl rfl Tryd.underlying3 rfl (S9.rowc (i := 0) (e := pcI d (fcC d k)) (j := 0) rfl (by first | omega | (simp only [lens]; omega)) rfl rfl)) ?_)
     refine wlo 11 12 rfl rfl rfl (wo_run rfl rfl (run_add rfl rfl rfl (by first | omega | (simp only [lens]; omega))) ?_)
     refine wlo 12 13 rfl rfl rfl (wo_run rfl rfl (run_indexR (C := cdInt) (i := 0) (pcI d (fcC d k)) rfl rfl rfl sl46 S9 rfl (by first | rfl | omega) (by first | omega | (simp only [lens]; omega))) ?_)
     refine wlo 13 14 rfl rfl rfl (wo_storeR (C := cdInt) (i := 0) (e := pcI d (fcC d k)) (j := 0) (us := [_]) (H' := [_, _]) ((ga fs (pcI d (fcC d k))) + 1) rfl rfl S9 rfl (by first | omega | (simp only [lens]; omega)) rfl rfl rfl sz3 rfl rfl rfl rfl ?_)
     intro w10 S10; clear S9
     refine wl_end rfl ?_
     refine nm_blk ?_
     refine nm_sub [(0, _), (3, _), (4, _), (9, _), (39, _), (40, _), (41, _)] ⟨rfl, rfl, rfl, rfl, rfl, rfl, rfl, trivial⟩ ?_
     refine nm_thn ?_
     refine ws_region rfl ?_
     refine wlo 0 1 rfl rfl rfl (wo_run rfl rfl (run_add rfl rfl rfl (by first | omega | (simp only [lens]; omega))) ?_)
     refine wlm 1 2 rfl rfl rfl rfl rfl rfl rfl ?_
     refine wl_end rfl ?_
     refine nm_lp ?_
     intro ax_ hax_
     refine ⟨_, ?hq6m, ⟨k + 1, _, _, rfl, hax_.sub ⟨rfl, rfl, rfl, rfl, rfl, rfl, rfl, trivial⟩, S10.pick [0, 1] [_, _] (by decide) ⟨rfl, rfl, trivial⟩, ?hq6f0, ?hq6f1⟩⟩
     case hq6f0 => omega
     case hq6f1 => (rw [hfs]; rfl)
     case hq6m => omega
    ·replace hb42 := of_decide_eq_false hb42
     have hfs3 : fs = fcN d (facesL d).length := by rw [hfs, show k = (facesL d).length by omega]
     refine ws_exit rfl rfl ?_
     refine nm_sub [(4, _), (9, _)] ⟨rfl, rfl, trivial⟩ ?_
     refine nm_thn ?_
     refine ws_seqN Planar_n58 Planar_n59 rfl rfl rfl ?_
     refine ws_seqN Planar_n60 Planar_n61 rfl rfl rfl ?_
     refine ws_region rfl ?_
     refine wlm 0 1 rfl rfl rfl rfl rfl rfl rfl ?_
     refine wlo 1 2 rfl rfl rfl (wo_run rfl rfl (run_len rfl rfl rfl rfl rfl rfl Tryd.underlying98) ?_)
     refine wlm 2 3 rfl rfl rfl rfl rfl rfl rfl ?_
     refine wl_end rfl ?_
     refine nm_sub [(9, _), (59, _), (60, _), (61, _)] ⟨rfl, rfl, rfl, rfl, trivial⟩ ?_
     refine nm_thn ?_
     refine ws_blockN Planar_n62 6 rfl rfl rfl ?_
     refine ws_loopE (fun mx_ ax_ wx_ => ∃ (j : Nat), mx_ = (pcsL d).length - j ∧ Env 75 [(9, vrf), (59, .slice A1 vs1.length c1), (60, .int .i64 (vs1.length : Int)), (61, .int .i64 (j : Int))] ax_ ∧ SH wx_ M2 X [Rs.row cdInt vrf fs] ∧ j ≤ (pcsL d).length ∧ (∀ q, q < j → ga fs q = ((ga (pcsL d) q).length : Int) + 2)) rfl ?_ ?_
     ·intro ax_ hax_
      refine ⟨_, ⟨0, rfl, hax_.sub ⟨rfl, rfl, rfl, rfl, trivial⟩, S8.pick [0] [_] (by decide) ⟨rfl, trivial⟩, ?hq7f0, ?hq7f1⟩⟩
      case hq7f0 => omega
      case hq7f1 => (intro q hq; omega)
     ·rintro m5 a4 w11 ⟨j, rfl, he4, S11, hj, hall⟩
      clear S8
      refine ws_in he4 (c := Planar_n63) rfl ?_
      clear he4 a4
      have hpl := pcsN_many d d.crs.length
      replace hpl : (pcsL d).length ≤ d.crs.length := hpl
      have hfl2 : fs.length = (pcsL d).length := by rw [hfs3, fcN_len]
      refine ws_seqN Planar_n64 Planar_n65 rfl rfl rfl ?_
      refine ws_region rfl ?_
      refine wlo 0 1 rfl rfl rfl (wo_run rfl rfl (run_lss rfl rfl rfl) ?_)
      refine wl_end rfl ?_
      refine nm_thn ?_
      refine ws_seqN Planar_n66 Planar_n67 rfl rfl rfl ?_
      refine ws_condN Planar_n68 Planar_n69 rfl rfl rfl rfl (fun hb62 => ?_) (fun hb62 => ?_)
      ·replace hb62 := of_decide_eq_true hb62
       have hpb := pcsL_bd hab (i := j) (by omega)
       refine ws_skip rfl ?_
       refine nm_sub [(9, _), (59, _), (60, _), (61, _)] ⟨rfl, rfl, rfl, rfl, trivial⟩ ?_
       refine nm_thn ?_
       refine ws_seqN Planar_n70 Planar_n71 rfl rfl rfl ?_
       refine ws_blockN Planar_n72 7 rfl rfl rfl ?_
       refine ws_seqN Planar_n73 Planar_n74 rfl rfl rfl ?_
       refine ws_region rfl ?_
       refine wlm 0 1 rfl rfl rfl rfl rfl rfl rfl ?_
       refine wlo 1 2 rfl rfl rfl (wo_run rfl rfl (run_indexM (C := (cdV 46)) j rfl rfl rfl sl98 (by first | rfl | omega) hr1 (by first | omega | (simp only [lens]; omega))) ?_)
       obtain ⟨hn3, hr5⟩ := hd1.2 j (by first | omega | (simp only [lens]; omega))
       have rmhr5 : (ga (pcsL d) j).length * 8 ≤ 140737488355328 := hr5.room
       refine wlo 2 3 rfl rfl rfl (wo_run rfl rfl (run_load1 rfl rfl Tryd.underlying46 rfl (hr1.cell S11.m (i := j) (by first | omega | (simp only [lens]; omega)) 0 rfl (congrArg (fun n => some (Value.slice _ n _)) hn3))) ?_)
       refine wla 3 4 rfl rfl rfl rfl rfl rfl rfl ?_
       refine wla 4 5 rfl rfl rfl rfl rfl rfl rfl ?_
       refine wl_end rfl ?_
       refine nm_sub [(9, _), (59, _), (60, _), (61, _), (12, _), (13, _)] ⟨rfl, rfl, rfl, rfl, rfl, rfl, trivial⟩ ?_
       refine nm_thn ?_
       refine ws_seqN Planar_n75 Planar_n76 rfl rfl rfl ?_
       refine ws_region rfl ?_
       refine wlm 0 1 rfl rfl rfl rfl rfl rfl rfl ?_
       refine wlm 1 2 rfl rfl rfl rfl rfl rfl rfl ?_
       refine wlo 2 3 rfl rfl rfl (wo_run rfl rfl (run_indexR (C := cdInt) (i := 0) j rfl rfl rfl sl46 S11 rfl (by first | rfl | omega) (by first | omega | (simp only [lens]; omega))) ?_)
       refine wlo 3 4 rfl rfl rfl (wo_run rfl rfl (run_load1 rfl rfl Tryd.underlying3 rfl (S11.rowc (i := 0) (e := j) (j := 0) rfl (by first | omega | (simp only [lens]; omega)) rfl rfl)) ?_)
       refine wlm 4 5 rfl rfl rfl rfl rfl rfl rfl ?_
       refine wlo 5 6 rfl rfl rfl (wo_run rfl rfl (run_len rfl rfl rfl rfl rfl rfl Tryd.underlying46) ?_)
       refine wlo 6 7 rfl rfl rfl (wo_run rfl rfl (run_add rfl rfl rfl (by first | omega | (simp only [lens]; omega))) ?_)
       refine wlo 7 8 rfl rfl rfl (wo_run rfl rfl (run_neq rfl rfl rfl) ?_)
       refine wl_end rfl ?_
       refine nm_sub [(9, _), (59, _), (60, _), (61, _), (73, _)] ⟨rfl, rfl, rfl, rfl, rfl, trivial⟩ ?_
       refine nm_thn ?_
       refine ws_condN Planar_n77 Planar_n78 rfl rfl rfl rfl (fun hb73 => ?_) (fun hb73 => ?_)
       ·replace hb73 := of_decide_eq_true hb73
        refine ws_seqN Planar_n79 Planar_n80 rfl rfl rfl ?_
        refine ws_region rfl ?_
        refine wla 0 1 rfl rfl rfl rfl rfl rfl rfl ?_
        refine wl_end rfl ?_
        refine nm_sub [(2, _)] ⟨rfl, trivial⟩ ?_
        refine nm_thn ?_
        refine ws_ret hC [_] rfl rfl ⟨rfl, trivial⟩ ?_
        refine ⟨_, rfl, _, hle1.trans hle4, (S11.pick [] [] (by decide) trivial), ?_⟩
        refine congrArg Value.bool (planP_f (i := j) (by omega) ?_).symm
        rw [← hfs3]; omega
       ·replace hb73 := of_decide_eq_false hb73
        refine ws_skip rfl ?_
        refine nm_blk ?_
        refine nm_sub [(9, _), (59, _), (60, _), (61, _)] ⟨rfl, rfl, rfl, rfl, trivial⟩ ?_
        refine nm_thn ?_
        refine ws_region rfl ?_
        refine wlo 0 1 rfl rfl rfl (wo_run rfl rfl (run_add rfl rfl rfl (by first | omega | (simp only [lens]; omega))) ?_)
        refine wlm 1 2 rfl rfl rfl rfl rfl rfl rfl ?_
        refine wl_end rfl ?_
        refine nm_lp ?_
        intro ax_ hax_
        refine ⟨_, ?hq8m, ⟨j + 1, rfl, hax_.sub ⟨rfl, rfl, rfl, rfl, trivial⟩, S11.pick [0] [_] (by decide) ⟨rfl, trivial⟩, ?hq8f0, ?hq8f1⟩⟩
        case hq8f0 => omega
        case hq8f1 => (intro q hq; by_cases h : q = j; (subst h; omega); exact hall q (by omega))
        case hq8m => omega
      ·replace hb62 := of_decide_eq_false hb62
       refine ws_exit rfl rfl ?_
       refine nm_sub [] trivial ?_
       refine nm_thn ?_
       refine ws_seqN Planar_n81 Planar_n82 rfl rfl rfl ?_
       refine ws_region rfl ?_
       refine wla 0 1 rfl rfl rfl rfl rfl rfl rfl ?_
       refine wl_end rfl ?_
       refine nm_thn ?_
       refine ws_ret hC [_] rfl rfl ⟨rfl, trivial⟩ ?_
       refine ⟨_, rfl, _, hle1.trans hle4, (S11.pick [] [] (by decide) trivial), ?_⟩
       exact congrArg Value.bool (planP_t (d := d) (fun q hq => by rw [← hfs3]; exact hall q (by omega))).symm
end Go.Proofs.YtlmcnpbkmihjkaaDoor
namespace Go.Proofs.YtlmcnpbkmihjkaaDoor
open Go.ChangeShapes Go.WideShapes Go.ChangeAt Go.RowKit
def roundG (e1 e2 : Nat → Nat) (ws : List Int) : Nat → List Int
 | 0 => ws
 | k + 1 => stepW (roundG e1 e2 ws k) (e1 k) (e2 k)
def cn (P : Nat → Bool) : Nat → Nat
 | 0 => 0
 | k + 1 => cn P k + (if P k = true then 1 else 0)
theorem cn_le (P : Nat → Bool) (k : Nat) : cn P k ≤ k := by
 induction k with
 | zero => exact Nat.le_refl _
 | succ k ih => rw [cn]; split <;> omega
theorem cn_mono {P Q : Nat → Bool} (k : Nat) (h : ∀ x, x < k → P x = true → Q x = true) : cn P k ≤ cn Q k := by
 induction k with
 | zero => exact Nat.le_refl _
 | succ k ih =>
  have := ih (fun x hx => h x (by omega))
  rw [cn, cn]
  by_cases hp : P k = true
  ·rw [if_pos hp, if_pos (h k (by omega) hp)]; omega
  ·rw [if_neg hp]; omega
theorem cn_lt {P Q : Nat → Bool} (k : Nat) (h : ∀ x, x < k → P x = true → Q x = true) {x : Nat} (hx : x < k) (hq : Q x = true) (hp : P x = false) : cn P k < cn Q k := by
 induction k with
 | zero => omega
 | succ k ih =>
  rw [cn, cn]
  by_cases e : x = k
  ·subst e
   have := cn_mono x (P := P) (Q := Q) (fun y hy => h y (by omega))
   rw [if_pos hq, if_neg (by rw [hp]; exact Bool.false_ne_true)]; omega
  ·have := ih (fun y hy => h y (by omega)) (by omega)
   by_cases hp' : P k = true
   ·rw [if_pos hp', if_pos (h k (by omega) hp')]; omega
   ·rw [if_neg hp']; omega
theorem cn_all {P : Nat → Bool} (k : Nat) (h : k ≤ cn P k) : ∀ x, x < k → P x = true := by
 induction k with
 | zero => intro x hx; omega
 | succ k ih =>
  rw [cn] at h
  have hl := cn_le P k
  by_cases hp : P k = true
  ·intro x hx
   by_cases e : x = k
   ·subst e; exact hp
   ·rw [if_pos hp] at h; exact ih (by omega) x (by omega)
  ·rw [if_neg hp] at h; omega
theorem least {P : Nat → Prop} (y : Nat) (h : P y) : ∃ z, P z ∧ ∀ u, P u → z ≤ u := by
 induction y using Nat.strongRecOn with
 | _ y ih =>
  by_cases hs : ∃ u, u < y ∧ P u
  ·obtain ⟨u, hu, hp⟩ := hs
   exact ih u hu hp
  ·exact ⟨y, h, fun u hu => by
    rcases Nat.lt_or_ge u y with h1 | h1
    ·exact absurd ⟨u, h1, hu⟩ hs
    ·exact h1⟩
/-- Labels lie in their class; m is the least of each class. -/
def LabOk (N : Nat) (cl : Nat → Nat) (ws : List Int) : Prop := ws.length = N ∧ ∀ x, x < N → ∃ z : Nat, z < N ∧ ga ws x = (z : Int) ∧ cl z = cl x
theorem stepW_ok {N : Nat} {cl : Nat → Nat} {ws : List Int} (h : LabOk N cl ws) {x y : Nat} (hx : x < N) (hy : y < N) (hc : cl x = cl y) : LabOk N cl (stepW ws x y) := by
 refine ⟨by rw [stepW_len]; exact h.1, fun z hz => ?_⟩
 have hl := h.1
 unfold stepW
 split
 ·rw [ga_set _ _ _ _ (by omega)]
  split
  ·rename_i e; subst e
   obtain ⟨u, h1, h2, h3⟩ := h.2 x hx
   exact ⟨u, h1, h2, h3.trans hc⟩
  ·exact h.2 z hz
 ·rw [ga_set _ _ _ _ (by omega)]
  split
  ·rename_i e; subst e
   obtain ⟨u, h1, h2, h3⟩ := h.2 y hy
   exact ⟨u, h1, h2, h3.trans hc.symm⟩
  ·exact h.2 z hz
/-- What a step does to those that have the least label. -/
theorem stepW_good {N : Nat} {cl : Nat → Nat} {m : Nat → Nat} (hm : ∀ x, x < N → ∀ y, y < N → cl y = cl x → m x ≤ y) (hmc : ∀ x y, x < N → y < N → cl x = cl y → m x = m y) {ws : List Int} (h : LabOk N cl ws) {x y : Nat} (hx : x < N) (hy : y < N) (hc : cl x = cl y) :
  (∀ z, z < N → ga ws z = (m z : Int) → ga (stepW ws x y) z = (m z : Int)) ∧ (ga ws x = (m x : Int) ∨ ga ws y = (m y : Int) → ga (stepW ws x y) x = (m x : Int) ∧ ga (stepW ws x y) y = (m y : Int)) := by
 have hl := h.1
 have hmm := hmc x y hx hy hc
 obtain ⟨u, u1, u2, u3⟩ := h.2 x hx
 obtain ⟨v, v1, v2, v3⟩ := h.2 y hy
 have b1 := hm x hx u u1 u3
 have b2 := hm y hy v v1 v3
 unfold stepW
 by_cases hlt : ga ws x < ga ws y
 ·rw [if_pos hlt]
  simp only [ga_set _ _ _ _ (show y < ws.length by omega)]
  refine ⟨fun z hz hg => ?_, fun hg => ?_⟩
  ·split
   ·rename_i e; subst e; omega
   ·exact hg
  ·simp only [if_true, ite_self]
   have e0 : ga ws x = (m x : Int) := by rcases hg with hg | hg <;> omega
   omega
 ·rw [if_neg hlt]
  simp only [ga_set _ _ _ _ (show x < ws.length by omega)]
  refine ⟨fun z hz hg => ?_, fun hg => ?_⟩
  ·split
   ·rename_i e; subst e; omega
   ·exact hg
  ·simp only [if_true, ite_self]
   have e0 : ga ws y = (m y : Int) := by rcases hg with hg | hg <;> omega
   omega
theorem labels {N K : Nat} (e1 e2 : Nat → Nat) (he : ∀ k, k < K → e1 k < N ∧ e2 k < N) (cl : Nat → Nat) (hin : ∀ k, k < K → cl (e1 k) = cl (e2 k))
  (hcon : ∀ Z : Nat → Prop, (∀ k, k < K → (Z (e1 k) ↔ Z (e2 k))) → ∀ x y, x < N → y < N → cl x = cl y → Z x → Z y)
  (ws : Nat → List Int) (hlen : (ws 0).length = N) (h0 : ∀ x : Nat, x < N → ga (ws 0) x = (x : Int)) (hs : ∀ j, ws (j + 1) = roundG e1 e2 (ws j) K) :
  ∀ x, x < N → ∃ z : Nat, z < N ∧ ga (ws N) x = (z : Int) ∧ cl z = cl x ∧ ∀ y, y < N → cl y = cl x → z ≤ y := by
 have hex : ∀ x : Nat, ∃ z : Nat, x < N → (z < N ∧ cl z = cl x) ∧ ∀ u, u < N ∧ cl u = cl x → z ≤ u := fun x => by
  by_cases hx : x < N
  ·obtain ⟨z, h1, h2⟩ := least (P := fun z => z < N ∧ cl z = cl x) x ⟨hx, rfl⟩
   exact ⟨z, fun _ => ⟨h1, h2⟩⟩
  ·exact ⟨0, fun h => absurd h hx⟩
 obtain ⟨m, hm0⟩ := Classical.axiomOfChoice hex
 have hm : ∀ x, x < N → ∀ y, y < N → cl y = cl x → m x ≤ y := fun x hx y hy e => (hm0 x hx).2 y ⟨hy, e⟩
 have hmc : ∀ x y, x < N → y < N → cl x = cl y → m x = m y := fun x y hx hy e => by
  have h1 := hm0 x hx
  have h2 := hm0 y hy
  have := h1.2 (m y) ⟨h2.1.1, h2.1.2.trans e.symm⟩
  have := h2.2 (m x) ⟨h1.1.1, h1.1.2.trans e⟩
  omega
 have hround : ∀ w, LabOk N cl w → ∀ k, k ≤ K → LabOk N cl (roundG e1 e2 w k) ∧ (∀ z, z < N → ga w z = (m z : Int) → ga (roundG e1 e2 w k) z = (m z : Int)) ∧
   ∀ j, j < k → (ga w (e1 j) = (m (e1 j) : Int) ∨ ga w (e2 j) = (m (e2 j) : Int)) → ga (roundG e1 e2 w k) (e1 j) = (m (e1 j) : Int) ∧ ga (roundG e1 e2 w k) (e2 j) = (m (e2 j) : Int) := fun w hw k => by
  induction k with
  | zero => exact fun _ => ⟨hw, fun z _ h => h, fun j hj => by omega⟩
  | succ k ih =>
   intro hk
   obtain ⟨a1, a2, a3⟩ := ih (by omega)
   obtain ⟨p1, p2⟩ := he k (by omega)
   have hc := hin k (by omega)
   obtain ⟨g1, g2⟩ := stepW_good hm hmc a1 p1 p2 hc
   refine ⟨stepW_ok a1 p1 p2 hc, fun z hz h => g1 z hz (a2 z hz h), fun j hj hg => ?_⟩
   obtain ⟨q1, q2⟩ := he j (by omega)
   by_cases e : j = k
   ·subst e
    exact g2 (hg.elim (fun h => .inl (a2 _ q1 h)) (fun h => .inr (a2 _ q2 h)))
   ·obtain ⟨r1, r2⟩ := a3 j (by omega) hg
    exact ⟨g1 _ q1 r1, g1 _ q2 r2⟩
 have hok : ∀ j, LabOk N cl (ws j) := fun j => by
  induction j with
  | zero => exact ⟨hlen, fun x hx => ⟨x, hx, h0 x hx, rfl⟩⟩
  | succ j ih => rw [hs]; exact (hround _ ih K (Nat.le_refl _)).1
 have hpers : ∀ j z, z < N → ga (ws j) z = (m z : Int) → ga (ws (j + 1)) z = (m z : Int) := fun j z hz h => by rw [hs]; exact (hround _ (hok j) K (Nat.le_refl _)).2.1 z hz h
 have hroot : ∀ j x, x < N → ga (ws j) (m x) = (m (m x) : Int) := fun j x hx => by
  have h1 := (hm0 x hx).1
  have e : m (m x) = m x := hmc _ _ h1.1 hx h1.2
  induction j with
  | zero => rw [h0 _ h1.1, e]
  | succ j ih => exact hpers j _ h1.1 ih
 have hgrow : ∀ j, (∀ x, x < N → ga (ws j) x = (m x : Int)) ∨ j ≤ cn (fun x => decide (ga (ws j) x = (m x : Int))) N := fun j => by
  induction j with
  | zero => exact .inr (Nat.zero_le _)
  | succ j ih =>
   rcases ih with ih | ih
   ·exact .inl fun x hx => hpers j x hx (ih x hx)
   ·by_cases hnew : ∃ x, x < N ∧ ga (ws (j + 1)) x = (m x : Int) ∧ ga (ws j) x ≠ (m x : Int)
    ·obtain ⟨x, hx, h1, h2⟩ := hnew
     right
     have := cn_lt (P := fun x => decide (ga (ws j) x = (m x : Int))) (Q := fun x => decide (ga (ws (j + 1)) x = (m x : Int))) N (fun z hz h => decide_eq_true (hpers j z hz (of_decide_eq_true h))) hx (decide_eq_true h1) (decide_eq_false h2)
     omega
    ·left
     have hsame : ∀ x, x < N → ga (ws (j + 1)) x = (m x : Int) → ga (ws j) x = (m x : Int) := fun x hx h => Classical.byContradiction fun h' => hnew ⟨x, hx, h, h'⟩
     have hcl := hcon (fun x => ga (ws j) x = (m x : Int)) (fun k hk => by
      obtain ⟨q1, q2⟩ := he k hk
      have h3 := (hround _ (hok j) K (Nat.le_refl _)).2.2 k hk
      rw [← hs] at h3
      exact ⟨fun h => hsame _ q2 (h3 (.inl h)).2, fun h => hsame _ q1 (h3 (.inr h)).1⟩)
     intro x hx
     have h1 := (hm0 x hx).1
     exact hpers j x hx (hcl (m x) x h1.1 hx h1.2 (hroot j x hx))
 intro x hx
 have hall : ga (ws N) x = (m x : Int) := by
  rcases hgrow N with h | h
  ·exact h x hx
  ·exact of_decide_eq_true (cn_all N h x hx)
 have h1 := hm0 x hx
 exact ⟨m x, h1.1.1, hall, h1.1.2, fun y hy e => h1.2 y ⟨hy, e⟩⟩
end Go.Proofs.YtlmcnpbkmihjkaaDoor
namespace Go.Proofs.YtlmcnpbkmihjkaaDoor
open Go.ChangeShapes Go.WideShapes Go.ChangeAt Go.RowKit
theorem edge_nb {d : Dg} (h : arcsB d = true) {x s : Nat} (hx : x < d.crs.length) (hs : s < 4) : ∃ k, k < 2 * d.crs.length ∧ ((endC d k false = x ∧ endC d k true = nbC d x s) ∨ (endC d k true = x ∧ endC d k false = nbC d x s)) := by
 have ha := arcAt_bd h hx hs
 have e : (((arcAt d x s).toNat - 1 + 1 : Nat) : Int) = arcAt d x s := by omega
 refine ⟨(arcAt d x s).toNat - 1, by omega, ?_⟩
 unfold endC nbC
 rw [e]
 cases hb : entryB d x s
 ·right
  exact ⟨by rw [endOf_back h hx hs (b := true) hb], rfl⟩
 ·left
  exact ⟨by rw [endOf_back h hx hs (b := false) hb], rfl⟩
theorem nb_edge {d : Dg} (h : arcsB d = true) {k : Nat} (hk : k < 2 * d.crs.length) : ∃ s, s < 4 ∧ nbC d (endC d k false) s = endC d k true := by
 have ha : 1 ≤ ((k + 1 : Nat) : Int) ∧ ((k + 1 : Nat) : Int) ≤ 2 * (d.crs.length : Int) := by omega
 obtain ⟨_, h2, _⟩ := endD h ha false
 obtain ⟨h3, h4⟩ := endOf_there h ha false
 refine ⟨(endOf d ((k + 1 : Nat) : Int) false).2, h2, ?_⟩
 unfold nbC endC
 rw [h3, h4]
 rfl
theorem pcI_nb {d : Dg} (h : arcsB d = true) {x s : Nat} (hx : x < d.crs.length) (hs : s < 4) : pcI d (nbC d x s) = pcI d x := by
 obtain ⟨h1, h2, _⟩ := pcI_lt h hx
 exact (pcI_at h h1 ((pcs h).clo _ h1 _ h2 s hs)).2
theorem iniW_ga (n k : Nat) (hk : k ≤ n) (x : Nat) (hx : x < k) : ga (iniW n k) x = (x : Int) := by
 induction k with
 | zero => omega
 | succ k ih =>
  rw [iniW, ga_set _ _ _ _ (by rw [iniW_len]; omega)]
  split
  ·rename_i e; subst e; rfl
  ·exact ih (by omega) (by omega)
theorem roundG_W (d : Dg) (ws : List Int) (k : Nat) : roundW d ws k = roundG (fun j => endC d j false) (fun j => endC d j true) ws k := by
 induction k with
 | zero => rfl
 | succ k ih => rw [roundW, roundG, ih]
theorem rc_lt {d : Dg} (h : arcsB d = true) {x y : Nat} (hr : Rc d x y) (hx : x < d.crs.length) : y < d.crs.length := by
 induction hr with
 | refl => exact hx
 | step _ hk ih => exact nbC_lt h ih hk
theorem pieces_join {d : Dg} (h : arcsB d = true) (Z : Nat → Prop) (hZ : ∀ x s, x < d.crs.length → s < 4 → (Z x ↔ Z (nbC d x s))) {x y : Nat} (hx : x < d.crs.length) (hy : y < d.crs.length) (e : pcI d x = pcI d y) : Z x → Z y := by
 have hrc : ∀ c z, c < d.crs.length → Rc d c z → (Z c ↔ Z z) := fun c z hc hr => by
  induction hr with
  | refl => exact Iff.rfl
  | step hr' hk ih => exact ih.trans (hZ _ _ (rc_lt h hr' hc) hk)
 obtain ⟨h1, h2, _⟩ := pcI_lt h hx
 obtain ⟨_, h2', _⟩ := pcI_lt h hy
 rw [← e] at h2'
 obtain ⟨_, c0, hc0, _, hel⟩ := (pcs h).el _ h1
 obtain ⟨u, eu, _, ru⟩ := hel _ h2
 obtain ⟨v, ev, _, rv⟩ := hel _ h2'
 obtain rfl : x = u := by omega
 obtain rfl : y = v := by omega
 exact fun hz => (hrc _ _ hc0 rv).1 ((hrc _ _ hc0 ru).2 hz)
/-- Each crossing's label is the least crossing of its piece. -/
theorem whoL_law {d : Dg} (h : arcsB d = true) : ∀ x, x < d.crs.length → ∃ z : Nat, z < d.crs.length ∧ ga (whoL d) x = (z : Int) ∧ pcI d z = pcI d x ∧ ∀ y, y < d.crs.length → pcI d y = pcI d x → z ≤ y :=
 labels (N := d.crs.length) (K := 2 * d.crs.length) (fun j => endC d j false) (fun j => endC d j true) (fun k hk => ⟨endC_lt h hk false, endC_lt h hk true⟩) (pcI d)
  (fun k hk => by
   obtain ⟨s, hs, e⟩ := nb_edge h hk
   rw [← e, pcI_nb h (endC_lt h hk false) hs])
  (fun Z hZ x y hx hy e => pieces_join h Z (fun u s hu hs => by
   obtain ⟨k, hk, hh⟩ := edge_nb h hu hs
   have := hZ k hk
   rcases hh with ⟨h1, h2⟩ | ⟨h1, h2⟩
   ·rw [h1, h2] at this; exact this
   ·rw [h1, h2] at this; exact this.symm) hx hy e)
  (rndsW d) (rndsW_len d 0) (fun x hx => iniW_ga _ _ (Nat.le_refl _) x hx) (fun j => by rw [rndsW, roundG_W])
theorem who_root {d : Dg} (h : arcsB d = true) {x z : Nat} (hx : x < d.crs.length) (hz : ga (whoL d) x = (z : Int)) : z < d.crs.length ∧ pcI d z = pcI d x ∧ ga (whoL d) z = (z : Int) := by
 obtain ⟨u, h1, h2, h3, h4⟩ := whoL_law h x hx
 obtain rfl : z = u := by omega
 obtain ⟨v, g1, g2, g3, g4⟩ := whoL_law h z h1
 have a1 := g4 z h1 rfl
 have a2 := h4 v g1 (g3.trans h3)
 obtain rfl : v = z := by omega
 exact ⟨h1, h3, g2⟩
theorem who_iff {d : Dg} (h : arcsB d = true) {p : Nat} (hp : p < d.crs.length) (hr : ga (whoL d) p = (p : Int)) {x : Nat} (hx : x < d.crs.length) : ga (whoL d) x = (p : Int) ↔ pcI d x = pcI d p := by
 constructor
 ·intro e
  exact (who_root h hx e).2.1.symm
 ·intro e
  obtain ⟨u, h1, h2, h3, h4⟩ := whoL_law h x hx
  obtain ⟨v, g1, g2, g3, g4⟩ := whoL_law h p hp
  obtain rfl : v = p := by omega
  have a1 := h4 v hp e.symm
  have a2 := g4 u h1 (h3.trans e)
  rw [h2]
  omega
theorem cn_congr {P Q : Nat → Bool} (k : Nat) (h : ∀ x, x < k → P x = Q x) : cn P k = cn Q k := by
 induction k with
 | zero => rfl
 | succ k ih => rw [cn, cn, ih (fun x hx => h x (by omega)), h k (by omega)]
theorem cn_filter (P : Nat → Bool) (k : Nat) : cn P k = ((List.range k).filter P).length := by
 induction k with
 | zero => rfl
 | succ k ih =>
  rw [cn, ih, List.range_succ, List.filter_append, List.length_append]
  by_cases hp : P k = true <;> simp [hp]
theorem negW_cn (ws : List Int) (p : Int) (k : Nat) : negW ws p k = -(cn (fun x => decide (ga ws x = p)) k : Int) := by
 induction k with
 | zero => rfl
 | succ k ih =>
  rw [negW, cn, ih]
  by_cases e : ga ws k = p
  ·rw [if_pos e, if_pos (decide_eq_true e)]; omega
  ·rw [if_neg e, if_neg (by simpa using e)]; omega
theorem facW_cn (d : Dg) (ws : List Int) (p m : Int) (k : Nat) : facW d ws p m k = m + (cn (fun x => decide (ga ws (fcC d x) = p)) k : Int) := by
 induction k with
 | zero => rw [facW, cn]; omega
 | succ k ih =>
  rw [facW, cn, ih]
  by_cases e : ga ws (fcC d k) = p
  ·rw [if_pos e, if_pos (decide_eq_true e)]; omega
  ·rw [if_neg e, if_neg (by simpa using e)]; omega
theorem fcN_cn (d : Dg) (i : Nat) (hi : i < (pcsL d).length) (k : Nat) : ga (fcN d k) i = (cn (fun x => decide (pcI d (fcC d x) = i)) k : Int) := by
 induction k with
 | zero => rw [fcN, ga_rep _ _ _ hi]; rfl
 | succ k ih =>
  rw [fcN, cn]
  by_cases e : pcI d (fcC d k) = i
  ·rw [if_pos (decide_eq_true e), e, ga_set _ _ _ _ (by rw [fcN_len]; exact hi), if_pos rfl, ih]; omega
  ·rw [if_neg (by simpa using e), ga_set_ne _ _ _ _ e, ih]; omega
theorem piece_cn {d : Dg} (h : arcsB d = true) {i : Nat} (hi : i < (pcsL d).length) : (ga (pcsL d) i).length = cn (fun x => decide (pcI d x = i)) d.crs.length := by
 rw [cn_filter]
 obtain ⟨h1, c0, _, _, h2⟩ := (pcs h).el i hi
 have hn : ((List.range d.crs.length).filter (fun x => decide (pcI d x = i))).Nodup := List.Nodup.sublist (List.filter_sublist) List.nodup_range
 apply Nat.le_antisymm
 ·have h3 := nodup_le (ys := ((List.range d.crs.length).filter (fun x => decide (pcI d x = i))).map fun x : Nat => (x : Int)) h1 (fun y hy => by
   obtain ⟨z, rfl, hz, _⟩ := h2 y hy
   exact List.mem_map.2 ⟨z, List.mem_filter.2 ⟨List.mem_range.2 hz, decide_eq_true (pcI_at h hi hy).2⟩, rfl⟩)
  rw [List.length_map] at h3
  exact h3
 ·have hn' : (((List.range d.crs.length).filter (fun x => decide (pcI d x = i))).map fun x : Nat => (x : Int)).Nodup := by
   rw [List.nodup_iff_pairwise_ne, List.pairwise_map]
   exact List.Pairwise.imp (fun hab e => hab (by omega)) hn
  have h3 := nodup_le (ys := ga (pcsL d) i) hn' (fun y hy => by
   obtain ⟨z, hz, rfl⟩ := List.mem_map.1 hy
   obtain ⟨hz1, hz2⟩ := List.mem_filter.1 hz
   obtain ⟨_, g2, _⟩ := pcI_lt h (List.mem_range.1 hz1)
   rw [of_decide_eq_true hz2] at g2
   exact g2)
  rw [List.length_map] at h3
  exact h3
theorem root_count {d : Dg} (h : arcsB d = true) {p : Nat} (hp : p < d.crs.length) (hr : ga (whoL d) p = (p : Int)) : pcI d p < (pcsL d).length ∧
  (facW d (whoL d) p (negW (whoL d) p d.crs.length) (facesL d).length = 2 ↔ ga (fcN d (facesL d).length) (pcI d p) = ((ga (pcsL d) (pcI d p)).length : Int) + 2) := by
 obtain ⟨h1, _, _⟩ := pcI_lt h hp
 refine ⟨h1, ?_⟩
 rw [facW_cn, negW_cn, fcN_cn d _ h1, piece_cn h h1]
 have e1 : cn (fun x => decide (ga (whoL d) x = (p : Int))) d.crs.length = cn (fun x => decide (pcI d x = pcI d p)) d.crs.length := cn_congr _ fun x hx => decide_eq_decide.2 (who_iff h hp hr hx)
 have e2 : cn (fun x => decide (ga (whoL d) (fcC d x) = (p : Int))) (facesL d).length = cn (fun x => decide (pcI d (fcC d x) = pcI d p)) (facesL d).length := cn_congr _ fun x hx => decide_eq_decide.2 (who_iff h hp hr (fcC_lt h hx))
 rw [e1, e2]
 omega
theorem planar_law {d : Dg} (h : arcsB d = true) : planIs d = planP d := by
 rw [Bool.eq_iff_iff]
 constructor
 ·intro hp
  apply planP_t
  intro i hi
  obtain ⟨_, c0, hc0, hm, _⟩ := (pcs h).el i hi
  have e0 := (pcI_at h hi hm).2
  obtain ⟨z, _, hz, _⟩ := whoL_law h c0 hc0
  obtain ⟨r1, r2, r3⟩ := who_root h hc0 hz
  have hq := List.all_eq_true.1 hp z (List.mem_range.2 r1)
  unfold rootOk at hq
  rw [Bool.or_eq_true] at hq
  rcases hq with hq | hq
  ·exact absurd r3 (of_decide_eq_true hq)
  ·have := (root_count h r1 r3).2.1 (of_decide_eq_true hq)
   rw [r2, e0] at this
   exact this
 ·intro hp
  apply planIs_t
  intro p hpn
  unfold rootOk
  rw [Bool.or_eq_true]
  by_cases hr : ga (whoL d) p = (p : Int)
  ·right
   obtain ⟨h1, h2⟩ := root_count h hpn hr
   have hq := List.all_eq_true.1 hp _ (List.mem_range.2 h1)
   exact decide_eq_true (h2.2 (of_decide_eq_true hq))
  ·left
   exact decide_eq_true hr
end Go.Proofs.YtlmcnpbkmihjkaaDoor
namespace Go.Proofs.YtlmcnpbkmihjkaaDoor
open Go.ChangeShapes Go.WideShapes Go.ChangeAt Go.RowKit
theorem SH.pubBx {w : World} {M : Hp} {X : Fr} {H H' : List Rs} {i g : Nat} {T : TypeId} {l : List Value} (S : SH w M X H) (hi : nth H i = some (Rs.box g T l)) (hH : H.set i Rs.emp = H') : ∃ M', M.le M' ∧ SH w M' X H' ∧ BxM M' g T l := by
 obtain ⟨h1, h2, h3⟩ := S.pub hi hH
 have h4 : hp w g = some (.cells l.toArray T (0, 0)) := S.get hi
 exact ⟨_, h1, h2, (h3 g (by simp [Rs.box])).trans h4⟩
theorem mayO {d : Dg} (h : mayB d = true) : d.crs.length ≤ 16 ∧ arcsB d = true ∧ 0 ≤ d.loops ∧ d.loops ≤ 16 := by
 rw [mayB_arcs, Bool.and_eq_true, decide_eq_true_iff] at h
 exact ⟨h.1.1, h.2, h.1.2.1, h.1.2.2.1⟩
def ShM (N : Hp) (d : Dg) (g : Nat) (cA iA oA : Option Addr) (cc ic oc : Nat) : Prop := BxM N g 53 [.slice cA d.crs.length cc, .int .i64 d.loops, .slice iA (tabL d false (4 * d.crs.length)).length ic, .slice oA (tabL d true (4 * d.crs.length)).length oc] ∧ RdA cdCr N cA cc d.crs ∧ RdA cdPl N iA ic (tabL d false (4 * d.crs.length)) ∧ RdA cdPl N oA oc (tabL d true (4 * d.crs.length))
def NewT (d : Dg) (v : Value) (N : Hp) : Prop :=
 (mayB d = false ∧ v = .tuple [.pointer none, .bool false].toArray) ∨
 (mayB d = true ∧ ∃ g cA iA oA cc ic oc, v = .tuple [.pointer (some ⟨g, 0, none⟩), .bool true].toArray ∧ ShM N d g cA iA oA cc ic oc)
theorem New_t {w : World} {M : Hp} {X : Fr} (d : Dg) {A : Option Addr} {c : Nat} (h : RdA cdCr (M.un X.h) A c d.crs) (S : SH w M X []) : Ct Tryd.prog 34 [.agg [.slice A d.crs.length c, .int .i64 d.loops].toArray] w M X (NewT d) := by
 refine (New_o d h S).mono ?_
 rintro e w' ⟨v, rfl, N, S1, ⟨hm, rfl, rfl⟩ | ⟨hm, g, vc, vi, vo, rfl, rfl, hv⟩⟩
 ·exact ⟨_, rfl, M, Hp.le_refl _, S1, .inl ⟨hm, rfl⟩⟩
 ·obtain ⟨hn, _⟩ := mayO hm
  have t1 := tabL_len d false (4 * d.crs.length)
  have t2 := tabL_len d true (4 * d.crs.length)
  clear hv
  obtain ⟨M1, l1, S2, ⟨cA, cc, rfl, r1⟩⟩ := S1.pubrow (i := 1) rfl rfl (by show _ * 40 ≤ _; omega)
  obtain ⟨M2, l2, S3, ⟨iA, ic, rfl, r2⟩⟩ := S2.pubrow (C := cdPl) (xs := tabL d false (4 * d.crs.length)) (i := 2) rfl rfl (by show _ * 16 ≤ _; omega)
  obtain ⟨M3, l3, S4, ⟨oA, oc, rfl, r3⟩⟩ := S3.pubrow (C := cdPl) (xs := tabL d true (4 * d.crs.length)) (i := 3) rfl rfl (by show _ * 16 ≤ _; omega)
  obtain ⟨M4, l4, S5, b⟩ := S4.pubBx (i := 0) rfl rfl
  exact ⟨_, rfl, M4, (l1.trans l2).trans (l3.trans l4), S5.pick [] [] (by decide) trivial, .inr ⟨hm, g, cA, iA, oA, cc, ic, oc, rfl, b, ((r1.mono l2).mono l3).mono l4, (r2.mono l3).mono l4, r3.mono l4⟩⟩
def DgR (d : Dg) (u : Value) (M : Hp) : Prop := ∃ A c, u = .agg [.slice A d.crs.length c, .int .i64 d.loops].toArray ∧ RdA cdCr M A c d.crs
noncomputable def DiagramOf_n0 : Code := Tryd.f5.body.getD .skip
noncomputable def DiagramOf_n1 : Code := cL DiagramOf_n0
noncomputable def DiagramOf_n2 : Code := cR DiagramOf_n0
noncomputable def DiagramOf_n3 : Code := cL DiagramOf_n2
noncomputable def DiagramOf_n4 : Code := cR DiagramOf_n2
noncomputable def DiagramOf_n5 : Code := cL DiagramOf_n4
noncomputable def DiagramOf_n6 : Code := cR DiagramOf_n4
set_option maxRecDepth 10000 in
theorem DiagramOf_t {w : World} {M : Hp} {X : Fr} (d : Dg) {dcrsA : Option Addr} {dcrsc : Nat} (hdcrs : RdA cdCr (M.un X.h) dcrsA dcrsc d.crs) (S : SH w M X []) : Ct Tryd.prog 5 [.agg [.slice dcrsA d.crs.length dcrsc, .int .i64 d.loops].toArray] w M X (DgR d) := by
 unfold Ct
 have rmhdcrs : d.crs.length * 40 ≤ 140737488355328 := hdcrs.room
 have hroom : d.crs.length * 40 ≤ 140737488355328 := hdcrs.room
 refine calls_in (b := DiagramOf_n0) Tryd.func5 rfl Tryd.ntmps5 rfl (fun C hC => ?_)
 refine ws_sub [(0, _)] ⟨rfl, trivial⟩ ?_
 refine ws_seqN DiagramOf_n1 DiagramOf_n2 rfl rfl rfl ?_
 refine ws_region rfl ?_
 refine wlo 0 1 rfl rfl rfl (wo_box (l := [_, _]) rfl rfl rfl rfl rfl S ?_)
 intro gb1 w1 S1; clear S
 refine wlo 1 2 rfl rfl rfl (wo_alloc (l := [_, _]) rfl rfl rfl zr24 rfl S1 ?_)
 intro gb2 w2 S2; clear S1
 refine wl_end rfl ?_
 refine nm_sub [(1, _), (2, _)] ⟨rfl, rfl, trivial⟩ ?_
 refine nm_thn ?_
 refine ws_seqN DiagramOf_n3 DiagramOf_n4 rfl rfl rfl ?_
 refine ws_region rfl ?_
 refine wlo 0 1 rfl rfl rfl (wo_run rfl rfl (run_fieldAddr rfl rfl Tryd.underlying24 rfl (ce22) (nf22)) ?_)
 refine wlo 1 2 rfl rfl rfl (wo_run rfl rfl (run_load1 rfl rfl Tryd.underlying22 rfl (S2.boxc (i := 1) rfl rfl)) ?_)
 have S3 := S2.nilrow cdCr; clear S2
 refine wlo 2 3 rfl rfl rfl (wo_appendM (C := cdCr) (i := 0) rfl rfl rfl rfl rfl rfl rfl rfl sl22 S3 rfl hdcrs S3.um (by have h : _ * 40 ≤ _ := hdcrs.room; show (0 + _) * 40 ≤ _; first | omega | (simp only [lens]; omega)) ?_)
 intro vr2 w3 S4; clear S3
 change SH _ _ _ [Rs.row cdCr vr2 d.crs, _, _] at S4
 refine wlo 3 4 rfl rfl rfl (wo_run rfl rfl (run_fieldAddr rfl rfl Tryd.underlying24 rfl (ce22) (nf22)) ?_)
 refine wlo 4 5 rfl rfl rfl (wo_storeB (i := 2) (us := [_]) (l' := [_, _]) (H' := [_, _, _]) rfl rfl S4 rfl rfl rfl (S4.cells1 (i := 0) rfl) sz22 rfl (ones_cons (S4.one (i := 0) rfl) rfl) rfl rfl ?_)
 intro w4 S5; clear S4
 refine wl_end rfl ?_
 refine nm_sub [(1, _), (2, _)] ⟨rfl, rfl, trivial⟩ ?_
 refine nm_thn ?_
 refine ws_seqN DiagramOf_n5 DiagramOf_n6 rfl rfl rfl ?_
 refine ws_region rfl ?_
 refine wlo 0 1 rfl rfl rfl (wo_run rfl rfl (run_loadN (us := [_, _]) rfl rfl Tryd.underlying24 rfl sz24 (S5.boxcs (i := 2) rfl ⟨rfl, rfl, trivial⟩)) ?_)
 refine wlo 1 2 rfl rfl rfl (wo_storeB (i := 1) (us := [_, _]) (l' := [_, _]) (H' := [_, _, _]) rfl rfl S5 rfl rfl rfl rfl sz24 rfl (ones_cons (S5.one (i := 0) rfl) (ones_cons rfl rfl)) rfl rfl ?_)
 intro w5 S6; clear S5
 refine wl_end rfl ?_
 refine nm_sub [(2, _)] ⟨rfl, trivial⟩ ?_
 refine nm_thn ?_
 obtain ⟨M1, hle1, S7, ⟨A1, c1, e1, hr1⟩⟩ := S6.pubrow (i := 0) (H' := [_, _, _]) rfl rfl (by show _ * 40 ≤ _; first | omega | (simp only [lens]; omega))
 clear S6; subst e1
 replace hdcrs := hdcrs.mono (Hp.un_mono hle1 S7.mx)
 refine ws_ret hC [_] rfl rfl ⟨⟨_, rfl, loadVarN (us := [_, _]) Tryd.underlying24 rfl sz24 (S7.boxcs (i := 1) rfl ⟨rfl, rfl, trivial⟩)⟩, trivial⟩ ?_
 refine ⟨_, rfl, _, hle1, (S7.pick [] [] (by decide) trivial), ?_⟩
 exact ⟨_, _, rfl, hr1⟩
end Go.Proofs.YtlmcnpbkmihjkaaDoor
namespace Go.Proofs.YtlmcnpbkmihjkaaDoor
open Go.ChangeShapes Go.WideShapes Go.ChangeAt Go.RowKit
/-- What forbids that a diagram is opened to wind. -/
def errO (d : Dg) : Int := if mayB d = true then (if planP d = true then 0 else 5) else 7
theorem errO_ok {d : Dg} (h : errO d = 0) : mayB d = true ∧ planP d = true := by
 unfold errO at h
 split at h
 ·split at h
  ·exact ⟨by assumption, by assumption⟩
  ·cases h
 ·cases h
def OpenT (d : Dg) (v : Value) (N : Hp) : Prop :=
 (errO d ≠ 0 ∧ v = .tuple [.pointer none, .int .i64 (errO d)].toArray) ∨
 (errO d = 0 ∧ ∃ g cA iA oA cc ic oc, v = .tuple [.pointer (some ⟨g, 0, none⟩), .int .i64 0].toArray ∧ ShM N d g cA iA oA cc ic oc)
def sgn (x : Cr) : Int := if x.plus = true then 1 else -1
def turnN (d : Dg) : Nat → Int
 | 0 => 0
 | k + 1 => turnN d k + sgn (ga d.crs k)
theorem turnN_bd (d : Dg) (k : Nat) : -(k : Int) ≤ turnN d k ∧ turnN d k ≤ k := by
 induction k with
 | zero => simp [turnN]
 | succ k ih => rw [turnN]; unfold sgn; split <;> omega
def turns (d : Dg) : Int := turnN d d.crs.length
noncomputable def Open_n0 : Code := Tryd.f21.body.getD .skip
noncomputable def Open_n1 : Code := cL Open_n0
noncomputable def Open_n2 : Code := cR Open_n0
noncomputable def Open_n3 : Code := cL Open_n2
noncomputable def Open_n4 : Code := cR Open_n2
noncomputable def Open_n5 : Code := cL Open_n4
noncomputable def Open_n6 : Code := cR Open_n4
noncomputable def Open_n7 : Code := cL Open_n5
noncomputable def Open_n8 : Code := cL Open_n7
noncomputable def Open_n9 : Code := cR Open_n7
noncomputable def Open_n10 : Code := cL Open_n9
noncomputable def Open_n11 : Code := cR Open_n9
noncomputable def Open_n12 : Code := cL Open_n10
noncomputable def Open_n13 : Code := cR Open_n10
noncomputable def Open_n14 : Code := cL Open_n11
noncomputable def Open_n15 : Code := cR Open_n11
noncomputable def Open_n16 : Code := cL Open_n15
noncomputable def Open_n17 : Code := cR Open_n15
noncomputable def Open_n18 : Code := cL Open_n16
noncomputable def Open_n19 : Code := cR Open_n16
noncomputable def Open_n20 : Code := cL Open_n6
noncomputable def Open_n21 : Code := cR Open_n6
set_option maxRecDepth 10000 in
theorem Open_t {w : World} {M : Hp} {X : Fr} (d : Dg) {dcrsA : Option Addr} {dcrsc : Nat} (hdcrs : RdA cdCr (M.un X.h) dcrsA dcrsc d.crs) (S : SH w M X []) : Ct Tryd.prog 21 [.agg [.slice dcrsA d.crs.length dcrsc, .int .i64 d.loops].toArray] w M X (OpenT d) := by
 unfold Ct
 have rmhdcrs : d.crs.length * 40 ≤ 140737488355328 := hdcrs.room
 refine calls_in (b := Open_n0) Tryd.func21 rfl Tryd.ntmps21 rfl (fun C hC => ?_)
 refine ws_sub [(0, _)] ⟨rfl, trivial⟩ ?_
 refine ws_seqN Open_n1 Open_n2 rfl rfl rfl ?_
 refine ws_region rfl ?_
 refine wlo 0 1 rfl rfl rfl (wo_box (l := [_, _]) rfl rfl rfl rfl rfl S ?_)
 intro gb1 w1 S1; clear S
 refine wla 1 2 rfl rfl rfl rfl rfl rfl rfl ?_
 refine wla 2 3 rfl rfl rfl rfl rfl rfl rfl ?_
 refine wl_end rfl ?_
 refine nm_sub [(1, _)] ⟨rfl, trivial⟩ ?_
 refine nm_thn ?_
 refine ws_seqN Open_n3 Open_n4 rfl rfl rfl ?_
 refine ws_region rfl ?_
 refine wlo 0 1 rfl rfl rfl (wo_run rfl rfl (run_loadN (us := [_, _]) rfl rfl Tryd.underlying24 rfl sz24 (S1.boxcs (i := 0) rfl ⟨rfl, rfl, trivial⟩)) ?_)
 refine wlo 1 2 rfl rfl rfl (wo_ct rfl rfl rfl rfl rfl rfl rfl cf34 S1 (New_t d (hdcrs.mono S1.un_XH) S1.lend) ?_)
 intro vw2 w2 M1 hle1 S2 hRw2; clear S1
 replace hdcrs := hdcrs.mono (Hp.un_mono hle1 S2.mx)
 rcases hRw2 with ⟨hmay8, rfl⟩ | ⟨hmay8, g1, cA8, iA8, oA8, cc8, ic8, oc8, rfl, hsb8, hsc8, hsi8, hso8⟩
 ·refine wlm 2 3 rfl rfl rfl rfl rfl rfl rfl ?_
  refine wlo 3 4 rfl rfl rfl (wo_run rfl rfl (run_extract rfl rfl rfl) ?_)
  refine wlo 4 5 rfl rfl rfl (wo_run rfl rfl (run_extract rfl rfl rfl) ?_)
  refine wla 5 6 rfl rfl rfl rfl rfl rfl rfl ?_
  refine wla 6 7 rfl rfl rfl rfl rfl rfl rfl ?_
  refine wl_end rfl ?_
  refine nm_sub [(4, _), (5, _)] ⟨rfl, rfl, trivial⟩ ?_
  refine nm_thn ?_
  refine ws_seqN Open_n5 Open_n6 rfl rfl rfl ?_
  refine ws_blockN Open_n7 0 rfl rfl rfl ?_
  refine ws_seqN Open_n8 Open_n9 rfl rfl rfl ?_
  refine ws_region rfl ?_
  refine wlm 0 1 rfl rfl rfl rfl rfl rfl rfl ?_
  refine wlo 1 2 rfl rfl rfl (wo_run rfl rfl (run_not rfl rfl) ?_)
  refine wla 2 3 rfl rfl rfl rfl rfl rfl rfl ?_
  refine wl_end rfl ?_
  refine nm_sub [(4, _), (11, _)] ⟨rfl, rfl, trivial⟩ ?_
  refine nm_thn ?_
  refine ws_condTN Open_n10 rfl rfl rfl ?_
  refine ws_seqN Open_n12 Open_n13 rfl rfl rfl ?_
  refine ws_region rfl ?_
  refine wla 0 1 rfl rfl rfl rfl rfl rfl rfl ?_
  refine wla 1 2 rfl rfl rfl rfl rfl rfl rfl ?_
  refine wl_end rfl ?_
  refine nm_sub [(2, _), (3, _)] ⟨rfl, rfl, trivial⟩ ?_
  refine nm_thn ?_
  refine ws_ret hC [_, _] rfl rfl ⟨rfl, rfl, trivial⟩ ?_
  refine ⟨_, rfl, _, hle1, (S2.pick [] [] (by decide) trivial), ?_⟩
  have e0 : errO d = 7 := by unfold errO; rw [if_neg (by rw [hmay8]; exact Bool.false_ne_true)]
  exact .inl ⟨by rw [e0]; decide, by rw [e0]; rfl⟩
 ·obtain ⟨hn, hab, hlo0, hlo1⟩ := mayO hmay8
  refine wlm 2 3 rfl rfl rfl rfl rfl rfl rfl ?_
  refine wlo 3 4 rfl rfl rfl (wo_run rfl rfl (run_extract rfl rfl rfl) ?_)
  refine wlo 4 5 rfl rfl rfl (wo_run rfl rfl (run_extract rfl rfl rfl) ?_)
  refine wla 5 6 rfl rfl rfl rfl rfl rfl rfl ?_
  refine wla 6 7 rfl rfl rfl rfl rfl rfl rfl ?_
  refine wl_end rfl ?_
  refine nm_sub [(4, _), (5, _)] ⟨rfl, rfl, trivial⟩ ?_
  refine nm_thn ?_
  refine ws_seqN Open_n5 Open_n6 rfl rfl rfl ?_
  refine ws_blockN Open_n7 0 rfl rfl rfl ?_
  refine ws_seqN Open_n8 Open_n9 rfl rfl rfl ?_
  refine ws_region rfl ?_
  refine wlm 0 1 rfl rfl rfl rfl rfl rfl rfl ?_
  refine wlo 1 2 rfl rfl rfl (wo_run rfl rfl (run_not rfl rfl) ?_)
  refine wla 2 3 rfl rfl rfl rfl rfl rfl rfl ?_
  refine wl_end rfl ?_
  refine nm_sub [(4, _), (11, _)] ⟨rfl, rfl, trivial⟩ ?_
  refine nm_thn ?_
  refine ws_condFN Open_n11 rfl rfl rfl ?_
  refine ws_seqN Open_n14 Open_n15 rfl rfl rfl ?_
  refine ws_region rfl ?_
  refine wlm 0 1 rfl rfl rfl rfl rfl rfl rfl ?_
  refine wlo 1 2 rfl rfl rfl (wo_ct rfl rfl rfl rfl rfl rfl rfl cf35 S2 (Planar_t d hsb8 hsc8 hsi8 hso8 hn hab S2.lend) ?_)
  intro vw3 w3 M2 hle2 S3 hRw3; clear S2
  replace hdcrs := hdcrs.mono (Hp.un_mono hle2 S3.mx)
  replace hsb8 := hsb8.mono hle2
  replace hsc8 := hsc8.mono hle2
  replace hsi8 := hsi8.mono hle2
  replace hso8 := hso8.mono hle2
  obtain rfl := hRw3
  refine wlo 2 3 rfl rfl rfl (wo_run rfl rfl (run_not rfl rfl) ?_)
  refine wla 3 4 rfl rfl rfl rfl rfl rfl rfl ?_
  refine wl_end rfl ?_
  refine nm_sub [(4, _), (14, _)] ⟨rfl, rfl, trivial⟩ ?_
  refine nm_thn ?_
  refine ws_condN Open_n16 Open_n17 rfl rfl rfl rfl (fun hb14 => ?_) (fun hb14 => ?_)
  ·simp only [Bool.and_eq_true, Bool.or_eq_true, Bool.and_eq_false_iff, Bool.or_eq_false_iff, decide_eq_true_eq, decide_eq_false_iff_not, Bool.not_eq_true', Bool.not_eq_false'] at hb14
   refine ws_seqN Open_n18 Open_n19 rfl rfl rfl ?_
   refine ws_region rfl ?_
   refine wla 0 1 rfl rfl rfl rfl rfl rfl rfl ?_
   refine wla 1 2 rfl rfl rfl rfl rfl rfl rfl ?_
   refine wl_end rfl ?_
   refine nm_sub [(2, _), (3, _)] ⟨rfl, rfl, trivial⟩ ?_
   refine nm_thn ?_
   refine ws_ret hC [_, _] rfl rfl ⟨rfl, rfl, trivial⟩ ?_
   refine ⟨_, rfl, _, hle1.trans hle2, (S3.pick [] [] (by decide) trivial), ?_⟩
   have e0 : errO d = 5 := by unfold errO; rw [if_pos hmay8, if_neg (by simp [*])]
   exact .inl ⟨by rw [e0]; decide, by rw [e0]; rfl⟩
  ·simp only [Bool.and_eq_true, Bool.or_eq_true, Bool.and_eq_false_iff, Bool.or_eq_false_iff, decide_eq_true_eq, decide_eq_false_iff_not, Bool.not_eq_true', Bool.not_eq_false'] at hb14
   refine ws_skip rfl ?_
   refine nm_blk ?_
   refine nm_sub [(4, _)] ⟨rfl, trivial⟩ ?_
   refine nm_thn ?_
   refine ws_seqN Open_n20 Open_n21 rfl rfl rfl ?_
   refine ws_region rfl ?_
   refine wlm 0 1 rfl rfl rfl rfl rfl rfl rfl ?_
   refine wla 1 2 rfl rfl rfl rfl rfl rfl rfl ?_
   refine wla 2 3 rfl rfl rfl rfl rfl rfl rfl ?_
   refine wl_end rfl ?_
   refine nm_sub [(2, _), (3, _)] ⟨rfl, rfl, trivial⟩ ?_
   refine nm_thn ?_
   refine ws_ret hC [_, _] rfl rfl ⟨rfl, rfl, trivial⟩ ?_
   refine ⟨_, rfl, _, hle1.trans hle2, (S3.pick [] [] (by decide) trivial), ?_⟩
   have e0 : errO d = 0 := by unfold errO; rw [if_pos hmay8, if_pos (by simpa using hb14)]
   exact .inr ⟨e0, _, _, _, _, _, _, _, rfl, hsb8, hsc8, hsi8, hso8⟩
noncomputable def PlanarMay_n0 : Code := Tryd.f16.body.getD .skip
noncomputable def PlanarMay_n1 : Code := cL PlanarMay_n0
noncomputable def PlanarMay_n2 : Code := cR PlanarMay_n0
noncomputable def PlanarMay_n3 : Code := cL PlanarMay_n2
noncomputable def PlanarMay_n4 : Code := cR PlanarMay_n2
noncomputable def PlanarMay_n5 : Code := cL PlanarMay_n3
noncomputable def PlanarMay_n6 : Code := cR PlanarMay_n3
noncomputable def PlanarMay_n7 : Code := cL PlanarMay_n6
noncomputable def PlanarMay_n8 : Code := cR PlanarMay_n6
noncomputable def PlanarMay_n9 : Code := cL PlanarMay_n7
noncomputable def PlanarMay_n10 : Code := cR PlanarMay_n7
noncomputable def PlanarMay_n11 : Code := cL PlanarMay_n4
noncomputable def PlanarMay_n12 : Code := cR PlanarMay_n4
noncomputable def PlanarMay_n13 : Code := cL PlanarMay_n11
noncomputable def PlanarMay_n14 : Code := cR PlanarMay_n11
noncomputable def PlanarMay_n15 : Code := cL PlanarMay_n14
noncomputable def PlanarMay_n16 : Code := cR PlanarMay_n14
noncomputable def PlanarMay_n17 : Code := cL PlanarMay_n15
noncomputable def PlanarMay_n18 : Code := cR PlanarMay_n15
noncomputable def PlanarMay_n19 : Code := cL PlanarMay_n12
noncomputable def PlanarMay_n20 : Code := cR PlanarMay_n12
set_option maxRecDepth 10000 in
theorem PlanarMay_t {w : World} {M : Hp} {X : Fr} (d : Dg) {dcrsA : Option Addr} {dcrsc : Nat} (hdcrs : RdA cdCr (M.un X.h) dcrsA dcrsc d.crs) (S : SH w M X []) : Ct Tryd.prog 16 [.agg [.slice dcrsA d.crs.length dcrsc, .int .i64 d.loops].toArray] w M X (fun u _ => u = .int .i64 (errO d)) := by
 unfold Ct
 have rmhdcrs : d.crs.length * 40 ≤ 140737488355328 := hdcrs.room
 refine calls_in (b := PlanarMay_n0) Tryd.func16 rfl Tryd.ntmps16 rfl (fun C hC => ?_)
 refine ws_sub [(0, _)] ⟨rfl, trivial⟩ ?_
 refine ws_seqN PlanarMay_n1 PlanarMay_n2 rfl rfl rfl ?_
 refine ws_region rfl ?_
 refine wlo 0 1 rfl rfl rfl (wo_box (l := [_, _]) rfl rfl rfl rfl rfl S ?_)
 intro gb1 w1 S1; clear S
 refine wla 1 2 rfl rfl rfl rfl rfl rfl rfl ?_
 refine wl_end rfl ?_
 refine nm_sub [(1, _)] ⟨rfl, trivial⟩ ?_
 refine nm_thn ?_
 refine ws_seqN PlanarMay_n3 PlanarMay_n4 rfl rfl rfl ?_
 refine ws_seqN PlanarMay_n5 PlanarMay_n6 rfl rfl rfl ?_
 refine ws_region rfl ?_
 refine wlo 0 1 rfl rfl rfl (wo_run rfl rfl (run_loadN (us := [_, _]) rfl rfl Tryd.underlying24 rfl sz24 (S1.boxcs (i := 0) rfl ⟨rfl, rfl, trivial⟩)) ?_)
 refine wlo 1 2 rfl rfl rfl (wo_cq rfl rfl rfl rfl rfl rfl rfl cf29 S1 (DiagramMay_q d (hdcrs.mono S1.un_XH) S1.lend) ?_)
 rintro _ w2 S2 rfl; clear S1
 refine wlo 2 3 rfl rfl rfl (wo_run rfl rfl (run_not rfl rfl) ?_)
 refine wl_end rfl ?_
 refine nm_sub [(1, _), (5, _)] ⟨rfl, rfl, trivial⟩ ?_
 refine nm_thn ?_
 refine ws_condN PlanarMay_n7 PlanarMay_n8 rfl rfl rfl rfl (fun hb5 => ?_) (fun hb5 => ?_)
 ·simp only [Bool.and_eq_true, Bool.or_eq_true, Bool.and_eq_false_iff, Bool.or_eq_false_iff, decide_eq_true_eq, decide_eq_false_iff_not, Bool.not_eq_true', Bool.not_eq_false'] at hb5
  refine ws_seqN PlanarMay_n9 PlanarMay_n10 rfl rfl rfl ?_
  refine ws_region rfl ?_
  refine wla 0 1 rfl rfl rfl rfl rfl rfl rfl ?_
  refine wl_end rfl ?_
  refine nm_sub [(2, _)] ⟨rfl, trivial⟩ ?_
  refine nm_thn ?_
  refine ws_ret hC [_] rfl rfl ⟨rfl, trivial⟩ ?_
  refine ⟨_, rfl, _, Hp.le_refl _, (S2.pick [] [] (by decide) trivial), ?_⟩
  have e0 : errO d = 7 := by unfold errO; rw [if_neg (by simp_all)]
  rw [e0]
  rfl
 ·simp only [Bool.and_eq_true, Bool.or_eq_true, Bool.and_eq_false_iff, Bool.or_eq_false_iff, decide_eq_true_eq, decide_eq_false_iff_not, Bool.not_eq_true', Bool.not_eq_false'] at hb5
  have hm : mayB d = true := by simpa using hb5
  obtain ⟨hn, hab, _, _⟩ := mayO hm
  refine ws_skip rfl ?_
  refine nm_sub [(1, _)] ⟨rfl, trivial⟩ ?_
  refine nm_thn ?_
  refine ws_seqN PlanarMay_n11 PlanarMay_n12 rfl rfl rfl ?_
  refine ws_seqN PlanarMay_n13 PlanarMay_n14 rfl rfl rfl ?_
  refine ws_region rfl ?_
  refine wlo 0 1 rfl rfl rfl (wo_run rfl rfl (run_loadN (us := [_, _]) rfl rfl Tryd.underlying24 rfl sz24 (S2.boxcs (i := 0) rfl ⟨rfl, rfl, trivial⟩)) ?_)
  refine wlo 1 2 rfl rfl rfl (wo_ct rfl rfl rfl rfl rfl rfl rfl cf30 S2 (PlanarIs_t d (hdcrs.mono S2.un_XH) (hn) (hab) S2.lend) ?_)
  intro vw3 w3 M1 hle1 S3 hRw3; clear S2
  replace hdcrs := hdcrs.mono (Hp.un_mono hle1 S3.mx)
  obtain rfl := hRw3
  refine wlo 2 3 rfl rfl rfl (wo_run rfl rfl (run_not rfl rfl) ?_)
  refine wl_end rfl ?_
  refine nm_sub [(8, _)] ⟨rfl, trivial⟩ ?_
  refine nm_thn ?_
  refine ws_condN PlanarMay_n15 PlanarMay_n16 rfl rfl rfl rfl (fun hb8 => ?_) (fun hb8 => ?_)
  ·simp only [Bool.and_eq_true, Bool.or_eq_true, Bool.and_eq_false_iff, Bool.or_eq_false_iff, decide_eq_true_eq, decide_eq_false_iff_not, Bool.not_eq_true', Bool.not_eq_false'] at hb8
   refine ws_seqN PlanarMay_n17 PlanarMay_n18 rfl rfl rfl ?_
   refine ws_region rfl ?_
   refine wla 0 1 rfl rfl rfl rfl rfl rfl rfl ?_
   refine wl_end rfl ?_
   refine nm_sub [(2, _)] ⟨rfl, trivial⟩ ?_
   refine nm_thn ?_
   refine ws_ret hC [_] rfl rfl ⟨rfl, trivial⟩ ?_
   refine ⟨_, rfl, _, hle1, (S3.pick [] [] (by decide) trivial), ?_⟩
   have e1 := planar_law hab
   have e0 : errO d = 5 := by unfold errO; rw [if_pos hm, if_neg (by rw [← e1]; simp [*])]
   rw [e0]
   rfl
  ·simp only [Bool.and_eq_true, Bool.or_eq_true, Bool.and_eq_false_iff, Bool.or_eq_false_iff, decide_eq_true_eq, decide_eq_false_iff_not, Bool.not_eq_true', Bool.not_eq_false'] at hb8
   refine ws_skip rfl ?_
   refine nm_sub [] trivial ?_
   refine nm_thn ?_
   refine ws_seqN PlanarMay_n19 PlanarMay_n20 rfl rfl rfl ?_
   refine ws_region rfl ?_
   refine wla 0 1 rfl rfl rfl rfl rfl rfl rfl ?_
   refine wl_end rfl ?_
   refine nm_thn ?_
   refine ws_ret hC [_] rfl rfl ⟨rfl, trivial⟩ ?_
   refine ⟨_, rfl, _, hle1, (S3.pick [] [] (by decide) trivial), ?_⟩
   have e1 := planar_law hab
   have e0 : errO d = 0 := by unfold errO; rw [if_pos hm, if_pos (by rw [← e1]; simpa using hb8)]
   rw [e0]
   rfl
noncomputable def Sign_n0 : Code := Tryd.f28.body.getD .skip
noncomputable def Sign_n1 : Code := cL Sign_n0
noncomputable def Sign_n2 : Code := cR Sign_n0
noncomputable def Sign_n3 : Code := cL Sign_n2
noncomputable def Sign_n4 : Code := cR Sign_n2
noncomputable def Sign_n5 : Code := cL Sign_n3
noncomputable def Sign_n6 : Code := cR Sign_n3
noncomputable def Sign_n7 : Code := cL Sign_n6
noncomputable def Sign_n8 : Code := cR Sign_n6
noncomputable def Sign_n9 : Code := cL Sign_n7
noncomputable def Sign_n10 : Code := cR Sign_n7
noncomputable def Sign_n11 : Code := cL Sign_n4
noncomputable def Sign_n12 : Code := cR Sign_n4
set_option maxRecDepth 10000 in
theorem Sign_q {w : World} {M : Hp} {X : Fr} (x : Cr) (S : SH w M X []) : Cq Tryd.prog 28 [.agg [.int .i64 x.a, .int .i64 x.b, .int .i64 x.c, .int .i64 x.d, .bool x.plus].toArray] w M X (fun u => u = .int .i64 (sgn x)) := by
 unfold Cq
 refine calls_in (b := Sign_n0) Tryd.func28 rfl Tryd.ntmps28 rfl (fun C hC => ?_)
 refine ws_sub [(0, _)] ⟨rfl, trivial⟩ ?_
 refine ws_seqN Sign_n1 Sign_n2 rfl rfl rfl ?_
 refine ws_region rfl ?_
 refine wlo 0 1 rfl rfl rfl (wo_box (l := [_, _, _, _, _]) rfl rfl rfl rfl rfl S ?_)
 intro gb1 w1 S1; clear S
 refine wla 1 2 rfl rfl rfl rfl rfl rfl rfl ?_
 refine wl_end rfl ?_
 refine nm_sub [(1, _)] ⟨rfl, trivial⟩ ?_
 refine nm_thn ?_
 refine ws_seqN Sign_n3 Sign_n4 rfl rfl rfl ?_
 refine ws_seqN Sign_n5 Sign_n6 rfl rfl rfl ?_
 refine ws_region rfl ?_
 refine wlo 0 1 rfl rfl rfl (wo_run rfl rfl (run_fieldAddr rfl rfl Tryd.underlying67 rfl (ce4) (nf4)) ?_)
 refine wlo 1 2 rfl rfl rfl (wo_run rfl rfl (run_load1 rfl rfl Tryd.underlying4 rfl (S1.boxc (i := 0) rfl rfl)) ?_)
 refine wl_end rfl ?_
 refine nm_sub [(4, _)] ⟨rfl, trivial⟩ ?_
 refine nm_thn ?_
 refine ws_condN Sign_n7 Sign_n8 rfl rfl rfl rfl (fun hb4 => ?_) (fun hb4 => ?_)
 ·refine ws_seqN Sign_n9 Sign_n10 rfl rfl rfl ?_
  refine ws_region rfl ?_
  refine wla 0 1 rfl rfl rfl rfl rfl rfl rfl ?_
  refine wl_end rfl ?_
  refine nm_sub [(2, _)] ⟨rfl, trivial⟩ ?_
  refine nm_thn ?_
  refine ws_ret hC [_] rfl rfl ⟨rfl, trivial⟩ ?_
  exact ⟨_, rfl, (S1.pick [] [] (by decide) trivial), (by show Value.int _ _ = _; unfold sgn; first | (rw [if_pos (by assumption)]) | (rw [if_neg (by simp [*])]))⟩
 ·refine ws_skip rfl ?_
  refine nm_sub [] trivial ?_
  refine nm_thn ?_
  refine ws_seqN Sign_n11 Sign_n12 rfl rfl rfl ?_
  refine ws_region rfl ?_
  refine wla 0 1 rfl rfl rfl rfl rfl rfl rfl ?_
  refine wl_end rfl ?_
  refine nm_thn ?_
  refine ws_ret hC [_] rfl rfl ⟨rfl, trivial⟩ ?_
  exact ⟨_, rfl, (S1.pick [] [] (by decide) trivial), (by show Value.int _ _ = _; unfold sgn; first | (rw [if_pos (by assumption)]) | (rw [if_neg (by simp [*])]))⟩
noncomputable def signOf_n0 : Code := Tryd.f33.body.getD .skip
noncomputable def signOf_n1 : Code := cL signOf_n0
noncomputable def signOf_n2 : Code := cR signOf_n0
noncomputable def signOf_n3 : Code := cL signOf_n2
noncomputable def signOf_n4 : Code := cR signOf_n2
noncomputable def signOf_n5 : Code := cL signOf_n3
noncomputable def signOf_n6 : Code := cR signOf_n3
noncomputable def signOf_n7 : Code := cL signOf_n6
noncomputable def signOf_n8 : Code := cR signOf_n6
noncomputable def signOf_n9 : Code := cL signOf_n7
noncomputable def signOf_n10 : Code := cR signOf_n7
noncomputable def signOf_n11 : Code := cL signOf_n4
noncomputable def signOf_n12 : Code := cR signOf_n4
set_option maxRecDepth 10000 in
theorem signOf_q {w : World} {M : Hp} {X : Fr} (x : Cr) (S : SH w M X []) : Cq Tryd.prog 33 [.agg [.int .i64 x.a, .int .i64 x.b, .int .i64 x.c, .int .i64 x.d, .bool x.plus].toArray] w M X (fun u => u = .int .i64 (sgn x)) := by
 unfold Cq
 refine calls_in (b := signOf_n0) Tryd.func33 rfl Tryd.ntmps33 rfl (fun C hC => ?_)
 refine ws_sub [(0, _)] ⟨rfl, trivial⟩ ?_
 refine ws_seqN signOf_n1 signOf_n2 rfl rfl rfl ?_
 refine ws_region rfl ?_
 refine wlo 0 1 rfl rfl rfl (wo_box (l := [_, _, _, _, _]) rfl rfl rfl rfl rfl S ?_)
 intro gb1 w1 S1; clear S
 refine wla 1 2 rfl rfl rfl rfl rfl rfl rfl ?_
 refine wl_end rfl ?_
 refine nm_sub [(1, _)] ⟨rfl, trivial⟩ ?_
 refine nm_thn ?_
 refine ws_seqN signOf_n3 signOf_n4 rfl rfl rfl ?_
 refine ws_seqN signOf_n5 signOf_n6 rfl rfl rfl ?_
 refine ws_region rfl ?_
 refine wlo 0 1 rfl rfl rfl (wo_run rfl rfl (run_fieldAddr rfl rfl Tryd.underlying67 rfl (ce4) (nf4)) ?_)
 refine wlo 1 2 rfl rfl rfl (wo_run rfl rfl (run_load1 rfl rfl Tryd.underlying4 rfl (S1.boxc (i := 0) rfl rfl)) ?_)
 refine wl_end rfl ?_
 refine nm_sub [(4, _)] ⟨rfl, trivial⟩ ?_
 refine nm_thn ?_
 refine ws_condN signOf_n7 signOf_n8 rfl rfl rfl rfl (fun hb4 => ?_) (fun hb4 => ?_)
 ·refine ws_seqN signOf_n9 signOf_n10 rfl rfl rfl ?_
  refine ws_region rfl ?_
  refine wla 0 1 rfl rfl rfl rfl rfl rfl rfl ?_
  refine wl_end rfl ?_
  refine nm_sub [(2, _)] ⟨rfl, trivial⟩ ?_
  refine nm_thn ?_
  refine ws_ret hC [_] rfl rfl ⟨rfl, trivial⟩ ?_
  exact ⟨_, rfl, (S1.pick [] [] (by decide) trivial), (by show Value.int _ _ = _; unfold sgn; first | (rw [if_pos (by assumption)]) | (rw [if_neg (by simp [*])]))⟩
 ·refine ws_skip rfl ?_
  refine nm_sub [] trivial ?_
  refine nm_thn ?_
  refine ws_seqN signOf_n11 signOf_n12 rfl rfl rfl ?_
  refine ws_region rfl ?_
  refine wla 0 1 rfl rfl rfl rfl rfl rfl rfl ?_
  refine wl_end rfl ?_
  refine nm_thn ?_
  refine ws_ret hC [_] rfl rfl ⟨rfl, trivial⟩ ?_
  exact ⟨_, rfl, (S1.pick [] [] (by decide) trivial), (by show Value.int _ _ = _; unfold sgn; first | (rw [if_pos (by assumption)]) | (rw [if_neg (by simp [*])]))⟩
noncomputable def Turns_n0 : Code := Tryd.f14.body.getD .skip
noncomputable def Turns_n1 : Code := cL Turns_n0
noncomputable def Turns_n2 : Code := cR Turns_n0
noncomputable def Turns_n3 : Code := cL Turns_n2
noncomputable def Turns_n4 : Code := cR Turns_n2
noncomputable def Turns_n5 : Code := cL Turns_n4
noncomputable def Turns_n6 : Code := cR Turns_n4
noncomputable def Turns_n7 : Code := cL Turns_n5
noncomputable def Turns_n8 : Code := cR Turns_n5
noncomputable def Turns_n9 : Code := cL Turns_n8
noncomputable def Turns_n10 : Code := cL Turns_n9
noncomputable def Turns_n11 : Code := cL Turns_n10
noncomputable def Turns_n12 : Code := cR Turns_n10
noncomputable def Turns_n13 : Code := cL Turns_n12
noncomputable def Turns_n14 : Code := cR Turns_n12
noncomputable def Turns_n15 : Code := cL Turns_n13
noncomputable def Turns_n16 : Code := cR Turns_n13
noncomputable def Turns_n17 : Code := cL Turns_n14
noncomputable def Turns_n18 : Code := cR Turns_n14
noncomputable def Turns_n19 : Code := cL Turns_n17
noncomputable def Turns_n20 : Code := cL Turns_n19
noncomputable def Turns_n21 : Code := cR Turns_n19
noncomputable def Turns_n22 : Code := cL Turns_n6
noncomputable def Turns_n23 : Code := cR Turns_n6
set_option maxRecDepth 10000 in
theorem Turns_q {w : World} {M : Hp} {X : Fr} (d : Dg) {gsh : Nat} {cA iA oA : Option Addr} {cc ic oc : Nat} (hsb : BxM (M.un X.h) gsh 53 [.slice cA d.crs.length cc, .int .i64 d.loops, .slice iA (tabL d false (4 * d.crs.length)).length ic, .slice oA (tabL d true (4 * d.crs.length)).length oc]) (hsc : RdA cdCr (M.un X.h) cA cc d.crs) (hsi : RdA cdPl (M.un X.h) iA ic (tabL d false (4 * d.crs.length))) (hso : RdA cdPl (M.un X.h) oA oc (tabL d true (4 * d.crs.length))) (hn : d.crs.length ≤ 16) (S : SH w M X []) : Cq Tryd.prog 14 [.pointer (some ⟨gsh, 0, none⟩)] w M X (fun u => u = .int .i64 (turns d)) := by
 unfold Cq
 refine calls_in (b := Turns_n0) Tryd.func14 rfl Tryd.ntmps14 rfl (fun C hC => ?_)
 refine ws_sub [(0, _)] ⟨rfl, trivial⟩ ?_
 refine ws_seqN Turns_n1 Turns_n2 rfl rfl rfl ?_
 refine ws_region rfl ?_
 refine wla 0 1 rfl rfl rfl rfl rfl rfl rfl ?_
 refine wl_end rfl ?_
 refine nm_sub [(0, _)] ⟨rfl, trivial⟩ ?_
 refine nm_thn ?_
 refine ws_seqN Turns_n3 Turns_n4 rfl rfl rfl ?_
 refine ws_region rfl ?_
 refine wla 0 1 rfl rfl rfl rfl rfl rfl rfl ?_
 refine wl_end rfl ?_
 refine nm_thn ?_
 refine ws_seqN Turns_n5 Turns_n6 rfl rfl rfl ?_
 refine ws_seqN Turns_n7 Turns_n8 rfl rfl rfl ?_
 refine ws_region rfl ?_
 refine wlm 0 1 rfl rfl rfl rfl rfl rfl rfl ?_
 refine wlo 1 2 rfl rfl rfl (wo_run rfl rfl (run_nilCheck rfl rfl) ?_)
 refine wlo 2 3 rfl rfl rfl (wo_run rfl rfl (run_fieldAddr rfl rfl Tryd.underlying53 rfl (ce24) (nf24)) ?_)
 refine wlo 3 4 rfl rfl rfl (wo_run rfl rfl (run_fieldAddr rfl rfl Tryd.underlying24 rfl (ce22) (nf22)) ?_)
 refine wlo 4 5 rfl rfl rfl (wo_run rfl rfl (run_load1 rfl rfl Tryd.underlying22 rfl (hsb.cell S.um rfl)) ?_)
 refine wlo 5 6 rfl rfl rfl (wo_run rfl rfl (run_len rfl rfl rfl rfl rfl rfl Tryd.underlying22) ?_)
 refine wlm 6 7 rfl rfl rfl rfl rfl rfl rfl ?_
 refine wl_end rfl ?_
 refine nm_sub [(3, _), (10, _), (11, _), (12, _)] ⟨rfl, rfl, rfl, rfl, trivial⟩ ?_
 refine nm_thn ?_
 refine ws_blockN Turns_n9 0 rfl rfl rfl ?_
 refine ws_loopE (fun mx_ ax_ wx_ => ∃ (k : Nat) (m : Int), mx_ = d.crs.length - k ∧ Env 22 [(3, .int .i64 m), (10, .slice cA d.crs.length cc), (11, .int .i64 (d.crs.length : Int)), (12, .int .i64 (k : Int))] ax_ ∧ SH wx_ M X [] ∧ k ≤ d.crs.length ∧ m = turnN d k) rfl ?_ ?_
 ·intro ax_ hax_
  refine ⟨_, ⟨0, _, rfl, hax_.sub ⟨rfl, rfl, rfl, rfl, trivial⟩, S.pick [] [] (by decide) trivial, ?hq1f0, ?hq1f1⟩⟩
  case hq1f0 => omega
  case hq1f1 => rfl
 ·rintro m1 a1 w1 ⟨k, m, rfl, he1, S1, hk, hm⟩
  clear S
  refine ws_in he1 (c := Turns_n10) rfl ?_
  clear he1 a1
  have hbd := turnN_bd d k
  have hbd2 := turnN_bd d (k + 1)
  rw [turnN] at hbd2
  refine ws_seqN Turns_n11 Turns_n12 rfl rfl rfl ?_
  refine ws_region rfl ?_
  refine wlo 0 1 rfl rfl rfl (wo_run rfl rfl (run_lss rfl rfl rfl) ?_)
  refine wl_end rfl ?_
  refine nm_thn ?_
  refine ws_seqN Turns_n13 Turns_n14 rfl rfl rfl ?_
  refine ws_condN Turns_n15 Turns_n16 rfl rfl rfl rfl (fun hb13 => ?_) (fun hb13 => ?_)
  ·replace hb13 := of_decide_eq_true hb13
   refine ws_skip rfl ?_
   refine nm_sub [(3, _), (10, _), (11, _), (12, _)] ⟨rfl, rfl, rfl, rfl, trivial⟩ ?_
   refine nm_thn ?_
   refine ws_seqN Turns_n17 Turns_n18 rfl rfl rfl ?_
   refine ws_blockN Turns_n19 1 rfl rfl rfl ?_
   refine ws_seqN Turns_n20 Turns_n21 rfl rfl rfl ?_
   refine ws_region rfl ?_
   refine wlo 0 1 rfl rfl rfl (wo_run rfl rfl (run_indexM (C := cdCr) k rfl rfl rfl sl22 (by first | rfl | omega) hsc (by first | omega | (simp only [lens]; omega))) ?_)
   refine wlo 1 2 rfl rfl rfl (wo_run rfl rfl (run_loadN (us := [_, _, _, _, _]) rfl rfl Tryd.underlying67 rfl sz67 (hsc.cellsAt S1.um (e := k) (by first | omega | (simp only [lens]; omega)) (j := 0) ⟨rfl, rfl, rfl, rfl, rfl, trivial⟩)) ?_)
   refine wlo 2 3 rfl rfl rfl (wo_alloc (l := [_, _, _, _, _]) rfl rfl rfl zr67 rfl S1 ?_)
   intro gb1 w2 S2; clear S1
   refine wlo 3 4 rfl rfl rfl (wo_storeB (i := 0) (us := [_, _, _, _, _]) (l' := [_, _, _, _, _]) (H' := [_]) rfl rfl S2 rfl rfl rfl rfl sz67 rfl rfl rfl rfl ?_)
   intro w3 S3; clear S2
   refine wl_end rfl ?_
   refine nm_sub [(3, _), (10, _), (11, _), (12, _), (5, _)] ⟨rfl, rfl, rfl, rfl, rfl, trivial⟩ ?_
   refine nm_thn ?_
   refine ws_region rfl ?_
   refine wlm 0 1 rfl rfl rfl rfl rfl rfl rfl ?_
   refine wlo 1 2 rfl rfl rfl (wo_run rfl rfl (run_loadN (us := [_, _, _, _, _]) rfl rfl Tryd.underlying67 rfl sz67 (S3.boxcs (i := 0) rfl ⟨rfl, rfl, rfl, rfl, rfl, trivial⟩)) ?_)
   refine wlo 2 3 rfl rfl rfl (wo_cq rfl rfl rfl rfl rfl rfl rfl cf28 S3 (Sign_q (ga d.crs k)  S3.lend) ?_)
   rintro _ w4 S4 rfl; clear S3
   refine wlo 3 4 rfl rfl rfl (wo_run rfl rfl (run_add rfl rfl rfl (by first | omega | (simp only [lens]; omega))) ?_)
   refine wla 4 5 rfl rfl rfl rfl rfl rfl rfl ?_
   refine wl_end rfl ?_
   refine nm_blk ?_
   refine nm_sub [(3, _), (10, _), (11, _), (12, _)] ⟨rfl, rfl, rfl, rfl, trivial⟩ ?_
   refine nm_thn ?_
   refine ws_region rfl ?_
   refine wlo 0 1 rfl rfl rfl (wo_run rfl rfl (run_add rfl rfl rfl (by first | omega | (simp only [lens]; omega))) ?_)
   refine wlm 1 2 rfl rfl rfl rfl rfl rfl rfl ?_
   refine wl_end rfl ?_
   refine nm_lp ?_
   intro ax_ hax_
   refine ⟨_, ?hq2m, ⟨k + 1, _, rfl, hax_.sub ⟨rfl, rfl, rfl, rfl, trivial⟩, S4.pick [] [] (by decide) trivial, ?hq2f0, ?hq2f1⟩⟩
   case hq2f0 => omega
   case hq2f1 => (rw [hm]; rfl)
   case hq2m => omega
  ·replace hb13 := of_decide_eq_false hb13
   refine ws_exit rfl rfl ?_
   refine nm_sub [(3, _)] ⟨rfl, trivial⟩ ?_
   refine nm_thn ?_
   refine ws_seqN Turns_n22 Turns_n23 rfl rfl rfl ?_
   refine ws_region rfl ?_
   refine wlm 0 1 rfl rfl rfl rfl rfl rfl rfl ?_
   refine wla 1 2 rfl rfl rfl rfl rfl rfl rfl ?_
   refine wl_end rfl ?_
   refine nm_sub [(2, _)] ⟨rfl, trivial⟩ ?_
   refine nm_thn ?_
   refine ws_ret hC [_] rfl rfl ⟨rfl, trivial⟩ ?_
   exact ⟨_, rfl, (S1.pick [] [] (by decide) trivial), (by obtain rfl : k = d.crs.length := (by omega); rw [hm]; rfl)⟩
noncomputable def WritheOf_n0 : Code := Tryd.f20.body.getD .skip
noncomputable def WritheOf_n1 : Code := cL WritheOf_n0
noncomputable def WritheOf_n2 : Code := cR WritheOf_n0
noncomputable def WritheOf_n3 : Code := cL WritheOf_n2
noncomputable def WritheOf_n4 : Code := cR WritheOf_n2
noncomputable def WritheOf_n5 : Code := cL WritheOf_n4
noncomputable def WritheOf_n6 : Code := cR WritheOf_n4
noncomputable def WritheOf_n7 : Code := cL WritheOf_n5
noncomputable def WritheOf_n8 : Code := cR WritheOf_n5
noncomputable def WritheOf_n9 : Code := cL WritheOf_n8
noncomputable def WritheOf_n10 : Code := cL WritheOf_n9
noncomputable def WritheOf_n11 : Code := cL WritheOf_n10
noncomputable def WritheOf_n12 : Code := cR WritheOf_n10
noncomputable def WritheOf_n13 : Code := cL WritheOf_n11
noncomputable def WritheOf_n14 : Code := cR WritheOf_n11
noncomputable def WritheOf_n15 : Code := cL WritheOf_n14
noncomputable def WritheOf_n16 : Code := cR WritheOf_n14
noncomputable def WritheOf_n17 : Code := cL WritheOf_n12
noncomputable def WritheOf_n18 : Code := cR WritheOf_n12
noncomputable def WritheOf_n19 : Code := cL WritheOf_n17
noncomputable def WritheOf_n20 : Code := cL WritheOf_n6
noncomputable def WritheOf_n21 : Code := cR WritheOf_n6
set_option maxRecDepth 10000 in
theorem WritheOf_q {w : World} {M : Hp} {X : Fr} (d : Dg) {dcrsA : Option Addr} {dcrsc : Nat} (hdcrs : RdA cdCr (M.un X.h) dcrsA dcrsc d.crs) (hn : d.crs.length ≤ 16) (S : SH w M X []) : Cq Tryd.prog 20 [.agg [.slice dcrsA d.crs.length dcrsc, .int .i64 d.loops].toArray] w M X (fun u => u = .int .i64 (turns d)) := by
 unfold Cq
 have rmhdcrs : d.crs.length * 40 ≤ 140737488355328 := hdcrs.room
 refine calls_in (b := WritheOf_n0) Tryd.func20 rfl Tryd.ntmps20 rfl (fun C hC => ?_)
 refine ws_sub [(0, _)] ⟨rfl, trivial⟩ ?_
 refine ws_seqN WritheOf_n1 WritheOf_n2 rfl rfl rfl ?_
 refine ws_region rfl ?_
 refine wlo 0 1 rfl rfl rfl (wo_box (l := [_, _]) rfl rfl rfl rfl rfl S ?_)
 intro gb1 w1 S1; clear S
 refine wla 1 2 rfl rfl rfl rfl rfl rfl rfl ?_
 refine wl_end rfl ?_
 refine nm_sub [(1, _)] ⟨rfl, trivial⟩ ?_
 refine nm_thn ?_
 refine ws_seqN WritheOf_n3 WritheOf_n4 rfl rfl rfl ?_
 refine ws_region rfl ?_
 refine wla 0 1 rfl rfl rfl rfl rfl rfl rfl ?_
 refine wl_end rfl ?_
 refine nm_thn ?_
 refine ws_seqN WritheOf_n5 WritheOf_n6 rfl rfl rfl ?_
 refine ws_seqN WritheOf_n7 WritheOf_n8 rfl rfl rfl ?_
 refine ws_region rfl ?_
 refine wla 0 1 rfl rfl rfl rfl rfl rfl rfl ?_
 refine wl_end rfl ?_
 refine nm_thn ?_
 refine ws_blockN WritheOf_n9 0 rfl rfl rfl ?_
 refine ws_loopE (fun mx_ ax_ wx_ => ∃ (k : Nat) (m : Int), mx_ = d.crs.length - k ∧ Env 21 [(1, .pointer (some ⟨gb1, 0, none⟩)), (3, .int .i64 m), (4, .int .i64 (k : Int))] ax_ ∧ SH wx_ M X [Rs.box gb1 24 [.slice dcrsA d.crs.length dcrsc, .int .i64 d.loops]] ∧ k ≤ d.crs.length ∧ m = turnN d k) rfl ?_ ?_
 ·intro ax_ hax_
  refine ⟨_, ⟨0, _, rfl, hax_.sub ⟨rfl, rfl, rfl, trivial⟩, S1.pick [0] [_] (by decide) ⟨rfl, trivial⟩, ?hq1f0, ?hq1f1⟩⟩
  case hq1f0 => omega
  case hq1f1 => rfl
 ·rintro m1 a1 w2 ⟨k, m, rfl, he1, S2, hk, hm⟩
  clear S1
  refine ws_in he1 (c := WritheOf_n10) rfl ?_
  clear he1 a1
  have hbd := turnN_bd d k
  have hbd2 := turnN_bd d (k + 1)
  rw [turnN] at hbd2
  refine ws_seqN WritheOf_n11 WritheOf_n12 rfl rfl rfl ?_
  refine ws_seqN WritheOf_n13 WritheOf_n14 rfl rfl rfl ?_
  refine ws_region rfl ?_
  refine wlm 0 1 rfl rfl rfl rfl rfl rfl rfl ?_
  refine wlo 1 2 rfl rfl rfl (wo_run rfl rfl (run_fieldAddr rfl rfl Tryd.underlying24 rfl (ce22) (nf22)) ?_)
  refine wlo 2 3 rfl rfl rfl (wo_run rfl rfl (run_load1 rfl rfl Tryd.underlying22 rfl (S2.boxc (i := 0) rfl rfl)) ?_)
  refine wlo 3 4 rfl rfl rfl (wo_run rfl rfl (run_len rfl rfl rfl rfl rfl rfl Tryd.underlying22) ?_)
  refine wlo 4 5 rfl rfl rfl (wo_run rfl rfl (run_lss rfl rfl rfl) ?_)
  refine wl_end rfl ?_
  refine nm_sub [(1, _), (3, _), (4, _), (9, _)] ⟨rfl, rfl, rfl, rfl, trivial⟩ ?_
  refine nm_thn ?_
  refine ws_condN WritheOf_n15 WritheOf_n16 rfl rfl rfl rfl (fun hb9 => ?_) (fun hb9 => ?_)
  ·replace hb9 := of_decide_eq_true hb9
   refine ws_skip rfl ?_
   refine nm_sub [(1, _), (3, _), (4, _)] ⟨rfl, rfl, rfl, trivial⟩ ?_
   refine nm_thn ?_
   refine ws_seqN WritheOf_n17 WritheOf_n18 rfl rfl rfl ?_
   refine ws_blockN WritheOf_n19 1 rfl rfl rfl ?_
   refine ws_region rfl ?_
   refine wlm 0 1 rfl rfl rfl rfl rfl rfl rfl ?_
   refine wlo 1 2 rfl rfl rfl (wo_run rfl rfl (run_fieldAddr rfl rfl Tryd.underlying24 rfl (ce22) (nf22)) ?_)
   refine wlo 2 3 rfl rfl rfl (wo_run rfl rfl (run_load1 rfl rfl Tryd.underlying22 rfl (S2.boxc (i := 0) rfl rfl)) ?_)
   refine wlm 3 4 rfl rfl rfl rfl rfl rfl rfl ?_
   refine wlo 4 5 rfl rfl rfl (wo_run rfl rfl (run_indexM (C := cdCr) k rfl rfl rfl sl22 (by first | rfl | omega) hdcrs (by first | omega | (simp only [lens]; omega))) ?_)
   refine wlo 5 6 rfl rfl rfl (wo_run rfl rfl (run_loadN (us := [_, _, _, _, _]) rfl rfl Tryd.underlying67 rfl sz67 (hdcrs.cellsAt S2.um (e := k) (by first | omega | (simp only [lens]; omega)) (j := 0) ⟨rfl, rfl, rfl, rfl, rfl, trivial⟩)) ?_)
   refine wlo 6 7 rfl rfl rfl (wo_cq rfl rfl rfl rfl rfl rfl rfl cf33 S2 (signOf_q (ga d.crs k)  S2.lend) ?_)
   rintro _ w3 S3 rfl; clear S2
   refine wlo 7 8 rfl rfl rfl (wo_run rfl rfl (run_add rfl rfl rfl (by first | omega | (simp only [lens]; omega))) ?_)
   refine wla 8 9 rfl rfl rfl rfl rfl rfl rfl ?_
   refine wl_end rfl ?_
   refine nm_blk ?_
   refine nm_sub [(1, _), (3, _), (4, _)] ⟨rfl, rfl, rfl, trivial⟩ ?_
   refine nm_thn ?_
   refine ws_region rfl ?_
   refine wlm 0 1 rfl rfl rfl rfl rfl rfl rfl ?_
   refine wlo 1 2 rfl rfl rfl (wo_run rfl rfl (run_add rfl rfl rfl (by first | omega | (simp only [lens]; omega))) ?_)
   refine wla 2 3 rfl rfl rfl rfl rfl rfl rfl ?_
   refine wl_end rfl ?_
   refine nm_lp ?_
   intro ax_ hax_
   refine ⟨_, ?hq2m, ⟨k + 1, _, rfl, hax_.sub ⟨rfl, rfl, rfl, trivial⟩, S3.pick [0] [_] (by decide) ⟨rfl, trivial⟩, ?hq2f0, ?hq2f1⟩⟩
   case hq2f0 => omega
   case hq2f1 => (rw [hm]; rfl)
   case hq2m => omega
  ·replace hb9 := of_decide_eq_false hb9
   refine ws_exit rfl rfl ?_
   refine nm_sub [(3, _)] ⟨rfl, trivial⟩ ?_
   refine nm_thn ?_
   refine ws_seqN WritheOf_n20 WritheOf_n21 rfl rfl rfl ?_
   refine ws_region rfl ?_
   refine wlm 0 1 rfl rfl rfl rfl rfl rfl rfl ?_
   refine wla 1 2 rfl rfl rfl rfl rfl rfl rfl ?_
   refine wl_end rfl ?_
   refine nm_sub [(2, _)] ⟨rfl, trivial⟩ ?_
   refine nm_thn ?_
   refine ws_ret hC [_] rfl rfl ⟨rfl, trivial⟩ ?_
   exact ⟨_, rfl, (S2.pick [] [] (by decide) trivial), (by obtain rfl : k = d.crs.length := (by omega); rw [hm]; rfl)⟩
end Go.Proofs.YtlmcnpbkmihjkaaDoor
namespace Go.Proofs.YtlmcnpbkmihjkaaDoor
open Go.ChangeShapes Go.WideShapes Go.ChangeAt Go.RowKit
/-- One merge by labels: the label of b becomes that of a. -/
def mgW (ws : List Int) (a b : Nat) : List Int := if ga ws a = ga ws b then ws else ws.map (fun v => if v = ga ws b then ga ws a else v)
def mgC (ws : List Int) (a b : Nat) : Nat := if ga ws a = ga ws b then 0 else 1
def rnW : List (Nat × Nat) → List Int → List Int
 | [], ws => ws
 | p :: ps, ws => rnW ps (mgW ws p.1 p.2)
def rnC : List (Nat × Nat) → List Int → Nat
 | [], _ => 0
 | p :: ps, ws => mgC ws p.1 p.2 + rnC ps (mgW ws p.1 p.2)
theorem rnW_snoc (ps : List (Nat × Nat)) (p : Nat × Nat) (ws : List Int) : rnW (ps ++ [p]) ws = mgW (rnW ps ws) p.1 p.2 := by
 induction ps generalizing ws with
 | nil => rfl
 | cons q ps ih => exact ih _
theorem rnC_snoc (ps : List (Nat × Nat)) (p : Nat × Nat) (ws : List Int) : rnC (ps ++ [p]) ws = rnC ps ws + mgC (rnW ps ws) p.1 p.2 := by
 induction ps generalizing ws with
 | nil => show mgC ws p.1 p.2 + 0 = 0 + mgC ws p.1 p.2; omega
 | cons q ps ih => show mgC ws q.1 q.2 + rnC (ps ++ [p]) _ = mgC ws q.1 q.2 + rnC ps _ + _; rw [ih]; show _ = _ + mgC (rnW ps (mgW ws q.1 q.2)) p.1 p.2; omega
theorem mgW_len (ws : List Int) (a b : Nat) : (mgW ws a b).length = ws.length := by
 unfold mgW; split <;> simp
theorem rnW_len (ps : List (Nat × Nat)) (ws : List Int) : (rnW ps ws).length = ws.length := by
 induction ps generalizing ws with
 | nil => rfl
 | cons q ps ih => rw [rnW, ih, mgW_len]
theorem mgW_ga {ws : List Int} {a b : Nat} (h : ga ws a ≠ ga ws b) {x : Nat} (hx : x < ws.length) : ga (mgW ws a b) x = if ga ws x = ga ws b then ga ws a else ga ws x := by
 unfold mgW; rw [if_neg h, ga_map _ _ _ hx]
/-- A forest: of each point its root, and how far it is. -/
def RootF (cls : List Int) (N : Nat) (r h : Nat → Nat) : Prop := N ≤ cls.length ∧ ∀ x, x < N → (0 ≤ ga cls x ∧ (ga cls x).toNat < N) ∧ r (ga cls x).toNat = r x ∧ ((ga cls x).toNat = x → r x = x) ∧ ((ga cls x).toNat ≠ x → h (ga cls x).toNat < h x) ∧ r x < N ∧ (ga cls (r x)).toNat = r x
theorem RootF.rr {cls : List Int} {N : Nat} {r h : Nat → Nat} (H : RootF cls N r h) {x : Nat} (hx : x < N) : r (r x) = r x := by
 obtain ⟨_, _, _, _, h5, h6⟩ := H.2 x hx
 exact (H.2 (r x) h5).2.2.1 h6
theorem RootF.put {cls : List Int} {N : Nat} {r h : Nat → Nat} (H : RootF cls N r h) {a b : Nat} (ha : a < N) (hb : b < N) (hne : r a ≠ r b) :
  RootF (cls.set (r a) ((r b : Nat) : Int)) N (fun x => if r x = r a then r b else r x) (fun x => if r x = r a then h x + 1 + h (r b) else h x) := by
 obtain ⟨_, _, _, _, a5, a6⟩ := H.2 a ha
 obtain ⟨_, _, _, _, b5, b6⟩ := H.2 b hb
 have hl : r a < cls.length := Nat.lt_of_lt_of_le a5 H.1
 have raa := H.rr ha
 have rbb := H.rr hb
 refine ⟨by rw [List.length_set]; exact H.1, fun x hx => ?_⟩
 obtain ⟨x1, x2, x3, x4, x5, x6⟩ := H.2 x hx
 rw [ga_set _ _ _ _ hl]
 by_cases e : r a = x
 ·rw [if_pos e]
  have ex : r x = r a := by rw [← e]; exact raa
  have en : ¬ r (r b) = r a := by rw [rbb]; exact fun e2 => hne e2.symm
  have fp : (if r x = r a then r b else r x) = r b := if_pos ex
  have fn : (if r (r b) = r a then r b else r (r b)) = r b := by rw [if_neg en, rbb]
  have hp : (if r x = r a then h x + 1 + h (r b) else h x) = h x + 1 + h (r b) := if_pos ex
  have hn : (if r (r b) = r a then h (r b) + 1 + h (r b) else h (r b)) = h (r b) := if_neg en
  rw [Int.toNat_natCast]
  show (0 ≤ ((r b : Nat) : Int) ∧ r b < N) ∧ (if r (r b) = r a then r b else r (r b)) = (if r x = r a then r b else r x) ∧ (r b = x → (if r x = r a then r b else r x) = x) ∧ (r b ≠ x → (if r (r b) = r a then h (r b) + 1 + h (r b) else h (r b)) < (if r x = r a then h x + 1 + h (r b) else h x)) ∧ (if r x = r a then r b else r x) < N ∧ (ga (cls.set (r a) ((r b : Nat) : Int)) (if r x = r a then r b else r x)).toNat = (if r x = r a then r b else r x)
  rw [fp, fn, hp, hn]
  refine ⟨⟨by omega, b5⟩, rfl, fun e2 => e2, fun _ => by omega, b5, ?_⟩
  rw [ga_set _ _ _ _ hl, if_neg (fun e3 => hne e3)]
  exact b6
 ·rw [if_neg e]
  simp only [x2]
  by_cases e2 : r x = r a
  ·simp only [if_pos e2]
   refine ⟨x1, trivial, fun e3 => ?_, fun e3 => by have := x4 e3; omega, b5, ?_⟩
   ·have := x3 e3; omega
   ·rw [ga_set _ _ _ _ hl, if_neg (fun e3 => hne e3)]; exact b6
  ·simp only [if_neg e2]
   refine ⟨x1, trivial, x3, x4, x5, ?_⟩
   rw [ga_set _ _ _ _ hl, if_neg (fun e3 => e2 e3.symm)]
   exact x6
/-- Forest and labels tell the same classes. -/
def SameC (N : Nat) (r : Nat → Nat) (ws : List Int) : Prop := N ≤ ws.length ∧ ∀ x y, x < N → y < N → (r x = r y ↔ ga ws x = ga ws y)
theorem SameC.put {N : Nat} {r : Nat → Nat} {ws : List Int} (H : SameC N r ws) {a b : Nat} (ha : a < N) (hb : b < N) (hne : r a ≠ r b) : SameC N (fun x => if r x = r a then r b else r x) (mgW ws a b) := by
 have hw : ga ws a ≠ ga ws b := fun e => hne ((H.2 a b ha hb).2 e)
 refine ⟨by rw [mgW_len]; exact H.1, fun x y hx hy => ?_⟩
 rw [mgW_ga hw (Nat.lt_of_lt_of_le hx H.1), mgW_ga hw (Nat.lt_of_lt_of_le hy H.1)]
 have xa := H.2 x a hx ha
 have ya := H.2 y a hy ha
 have xb := H.2 x b hx hb
 have yb := H.2 y b hy hb
 have xy := H.2 x y hx hy
 show ((if r x = r a then r b else r x) = (if r y = r a then r b else r y)) ↔ _
 by_cases e1 : r x = r a
 ·have f1 := xa.1 e1
  have g1 : ¬ ga ws x = ga ws b := fun e => hw (f1.symm.trans e)
  by_cases e2 : r y = r a
  ·have f2 := ya.1 e2
   have g2 : ¬ ga ws y = ga ws b := fun e => hw (f2.symm.trans e)
   rw [if_pos e1, if_pos e2, if_neg g1, if_neg g2]
   exact ⟨fun _ => f1.trans f2.symm, fun _ => rfl⟩
  ·by_cases e3 : r y = r b
   ·rw [if_pos e1, if_neg e2, if_neg g1, if_pos (yb.1 e3)]
    exact ⟨fun _ => f1, fun _ => e3.symm⟩
   ·have g3 : ¬ ga ws y = ga ws b := fun e => e3 (yb.2 e)
    rw [if_pos e1, if_neg e2, if_neg g1, if_neg g3]
    exact ⟨fun e => absurd e.symm e3, fun e => absurd (ya.2 (e.symm.trans f1)) e2⟩
 ·by_cases e2 : r y = r a
  ·have f2 := ya.1 e2
   have g2 : ¬ ga ws y = ga ws b := fun e => hw (f2.symm.trans e)
   by_cases e3 : r x = r b
   ·rw [if_neg e1, if_pos e2, if_pos (xb.1 e3), if_neg g2]
    exact ⟨fun _ => f2.symm, fun _ => e3⟩
   ·have g3 : ¬ ga ws x = ga ws b := fun e => e3 (xb.2 e)
    rw [if_neg e1, if_pos e2, if_neg g3, if_neg g2]
    exact ⟨fun e => absurd e e3, fun e => absurd (xa.2 (e.trans f2)) e1⟩
  ·rw [if_neg e1, if_neg e2]
   by_cases e3 : ga ws x = ga ws b
   ·by_cases e4 : ga ws y = ga ws b
    ·rw [if_pos e3, if_pos e4]; exact ⟨fun _ => rfl, fun _ => xy.2 (e3.trans e4.symm)⟩
    ·rw [if_pos e3, if_neg e4]
     exact ⟨fun e => absurd ((xy.1 e).symm.trans e3) e4, fun e => absurd (ya.2 e.symm) e2⟩
   ·by_cases e4 : ga ws y = ga ws b
    ·rw [if_neg e3, if_pos e4]
     exact ⟨fun e => absurd ((xy.1 e).trans e4) e3, fun e => absurd (xa.2 e) e1⟩
    ·rw [if_neg e3, if_neg e4]; exact xy
theorem SameC.none_ {N : Nat} {r : Nat → Nat} {ws : List Int} (H : SameC N r ws) {a b : Nat} (ha : a < N) (hb : b < N) (he : r a = r b) : mgW ws a b = ws ∧ mgC ws a b = 0 := by
 have := (H.2 a b ha hb).1 he
 unfold mgW mgC
 rw [if_pos this, if_pos this]
 exact ⟨rfl, rfl⟩
theorem SameC.one {N : Nat} {r : Nat → Nat} {ws : List Int} (H : SameC N r ws) {a b : Nat} (ha : a < N) (hb : b < N) (he : r a ≠ r b) : mgC ws a b = 1 := by
 have : ¬ ga ws a = ga ws b := fun e => he ((H.2 a b ha hb).2 e)
 unfold mgC
 rw [if_neg this]
/-- How many roots there are among 1 .. k - 1. -/
def rtC (cls : List Int) : Nat → Nat
 | 0 => 0
 | k + 1 => rtC cls k + (if 1 ≤ k ∧ (ga cls k).toNat = k then 1 else 0)
theorem rtC_set {cls : List Int} {p : Nat} {v : Int} (hp : p < cls.length) (h1 : 1 ≤ p) (hr : (ga cls p).toNat = p) (hv : v.toNat ≠ p) : ∀ k, rtC (cls.set p v) k + (if p < k then 1 else 0) = rtC cls k := by
 intro k
 induction k with
 | zero => rfl
 | succ k ih =>
  rw [rtC, rtC, ga_set _ _ _ _ hp]
  by_cases e : p = k
  ·subst e
   rw [if_pos rfl, if_neg (fun h => hv h.2), if_pos (show p < p + 1 by omega), if_pos ⟨h1, hr⟩]
   rw [if_neg (Nat.lt_irrefl p)] at ih
   omega
  ·rw [if_neg e]
   by_cases e2 : p < k
   ·rw [if_pos (show p < k + 1 by omega)]; rw [if_pos e2] at ih; omega
   ·rw [if_neg (show ¬ p < k + 1 by omega)]; rw [if_neg e2] at ih; omega
theorem rtC_pos {cls : List Int} {p k : Nat} (hp : p < k) (h1 : 1 ≤ p) (hr : (ga cls p).toNat = p) : 1 ≤ rtC cls k := by
 induction k with
 | zero => omega
 | succ k ih =>
  rw [rtC]
  by_cases e : p = k
  ·subst e; rw [if_pos ⟨h1, hr⟩]; omega
  ·have := ih (by omega); omega
theorem rtC_id {cls : List Int} : ∀ k, (∀ x, x < k → ga cls x = (x : Int)) → rtC cls k = k - 1 := by
 intro k
 induction k with
 | zero => intro _; rfl
 | succ k ih =>
  intro h
  rw [rtC, ih (fun x hx => h x (by omega)), h k (by omega)]
  by_cases e : 1 ≤ k
  ·rw [if_pos ⟨e, by omega⟩]; omega
  ·rw [if_neg (fun h => e h.1)]; omega
end Go.Proofs.YtlmcnpbkmihjkaaDoor
namespace Go.Proofs.YtlmcnpbkmihjkaaDoor
open Go.ChangeShapes Go.WideShapes Go.ChangeAt Go.RowKit
section
variable {P : Program} {o : Oper} {L : List (Nat × Value)} {w : World} {x y : Operand} {t t' src dst : TypeId} {a b : Int} {k k2 : IntKind}
theorem run_binK {bo : BinOp} {v : Value} (ho : o.op = .binOp bo t x y t') (hx : oev L x = some (.int k a)) (hy : oev L y = some (.int k2 b)) (h : ∀ w, (binOp bo t (.int k a) (.int k2 b)).run P w = .ok v w) : Run P o L w v w := by
  intro n c hc
  unfold execOp
  simp only [ho, hc.eval hx, hc.eval hy]
  have : ∀ w, (eqGuard bo t x y (.int k a) (.int k2 b)).run P w = .ok () w := by
    intro w
    unfold eqGuard
    split <;> simp
  simp [this, h]
theorem run_shrK (ho : o.op = .binOp .shr t x y t') (hx : oev L x = some (.int k a)) (hy : oev L y = some (.int k2 b)) (h : 0 ≤ b) : Run P o L w (.int k (a.fdiv (2 ^ min b.toNat k.bits))) w :=
  run_binK ho hx hy fun w => by simp [binOp, Op.shift, Int.not_lt.2 h]
theorem run_shlK (ho : o.op = .binOp .shl t x y t') (hx : oev L x = some (.int k a)) (hy : oev L y = some (.int k2 b)) (h : 0 ≤ b) : Run P o L w (.int k (k.wrap (a * 2 ^ min b.toNat k.bits))) w :=
  run_binK ho hx hy fun w => by simp [binOp, Op.shift, Int.not_lt.2 h]
theorem run_andK (ho : o.op = .binOp .and t x y t') (hx : oev L x = some (.int k a)) (hy : oev L y = some (.int k b)) : Run P o L w (.int k (k.wrap ((BitVec.ofInt k.bits a &&& BitVec.ofInt k.bits b).toNat : Nat))) w :=
  run_binK ho hx hy fun w => by simp [binOp, Op.intBits]
theorem run_addK (ho : o.op = .binOp .add t x y t') (hx : oev L x = some (.int k a)) (hy : oev L y = some (.int k b)) : Run P o L w (.int k (k.wrap (a + b))) w :=
  run_binK ho hx hy fun w => by simp [binOp, Op.intArith]
theorem run_convI (ho : o.op = .convert src dst x) (hx : oev L x = some (.int k a)) (hs : ∃ d, P.underlying src = some d) (hd : P.underlying dst = some (.int k2)) : Run P o L w (.int k2 (k2.wrap a)) w := by
  intro n c he
  obtain ⟨d, hs⟩ := hs
  unfold execOp
  simp only [ho, he.eval hx, convert, Sem.run_bind, run_underlying hs, run_underlying hd, Result.andThen_ok, Conv.intToInt, Sem.run_pure]
theorem run_shrN {s n : Nat} (ho : o.op = .binOp .shr t x y t') (hx : oev L x = some (.int .i64 (s : Int))) (hy : oev L y = some (.int .i64 (n : Int))) (h : n ≤ 64) : Run P o L w (.int .i64 ((s / 2 ^ n : Nat) : Int)) w := by
  have := run_shrK (w := w) (P := P) ho hx hy (by omega)
  rw [show min ((n : Int).toNat) IntKind.i64.bits = n by show min _ 64 = n; omega, Int.fdiv_eq_ediv_of_nonneg _ (by exact Int.le_of_lt (Int.pow_pos (by decide)))] at this
  rw [show ((s / 2 ^ n : Nat) : Int) = (s : Int) / 2 ^ n by rw [Int.natCast_ediv, Int.natCast_pow]; rfl]
  exact this
theorem run_shl1N {n : Nat} (ho : o.op = .binOp .shl t x y t') (hx : oev L x = some (.int .i64 1)) (hy : oev L y = some (.int .i64 (n : Int))) (h : n ≤ 62) : Run P o L w (.int .i64 ((2 ^ n : Nat) : Int)) w := by
  have := run_shlK (w := w) (P := P) ho hx hy (by omega)
  rw [show min ((n : Int).toNat) IntKind.i64.bits = n by show min _ 64 = n; omega] at this
  have e : IntKind.i64.wrap (1 * 2 ^ n) = ((2 ^ n : Nat) : Int) := by
    have h1 : (2 : Int) ^ n = ((2 ^ n : Nat) : Int) := by rw [Int.natCast_pow]; rfl
    have h2 : 2 ^ n ≤ 2 ^ 62 := Nat.pow_le_pow_right (by decide) h
    rw [Int.one_mul, h1]
    have h3 : 2 ^ n ≤ 4611686018427387904 := h2
    generalize 2 ^ n = m at *
    exact wr_id (by omega)
  rw [e] at this
  exact this
theorem ofInt_nat (s : Nat) : BitVec.ofInt 64 (s : Int) = BitVec.ofNat 64 s := by
  apply BitVec.eq_of_toNat_eq
  simp
theorem run_and1N {s : Nat} (ho : o.op = .binOp .and t x y t') (hx : oev L x = some (.int .i64 (s : Int))) (hy : oev L y = some (.int .i64 1)) : Run P o L w (.int .i64 ((s % 2 : Nat) : Int)) w := by
  have := run_andK (w := w) (P := P) ho hx hy
  have e : (BitVec.ofInt IntKind.i64.bits (s : Int) &&& BitVec.ofInt IntKind.i64.bits 1).toNat = s % 2 := by
    show (BitVec.ofInt 64 (s : Int) &&& BitVec.ofInt 64 ((1 : Nat) : Int)).toNat = s % 2
    rw [ofInt_nat, ofInt_nat, BitVec.toNat_and, BitVec.toNat_ofNat, BitVec.toNat_ofNat, Nat.mod_eq_of_lt (show 1 < 2 ^ 64 by decide), Nat.and_one_is_mod]
    omega
  rw [e] at this
  have e2 : IntKind.i64.wrap ((s % 2 : Nat) : Int) = ((s % 2 : Nat) : Int) := wr_id (by omega)
  rw [e2] at this
  exact this
theorem run_convN {s : Nat} (ho : o.op = .convert src dst x) (hx : oev L x = some (.int .i64 (s : Int))) (hs : ∃ d, P.underlying src = some d) (hd : P.underlying dst = some (.int .u64)) (h : s < 9223372036854775808) : Run P o L w (.int .u64 (s : Int)) w := by
  have := run_convI (w := w) ho hx hs hd
  rw [show IntKind.u64.wrap (s : Int) = (s : Int) from by
    show (s : Int) % 18446744073709551616 = _
    omega] at this
  exact this
end
def ocS (a : Int) (n : Nat) : Int := a.fdiv (2 ^ n)
def ocA (a b : Int) : Int := IntKind.u64.wrap ((BitVec.ofInt 64 a &&& BitVec.ofInt 64 b).toNat : Nat)
def ocP (a b : Int) : Int := IntKind.u64.wrap (a + b)
def oc1 (x : Int) : Int := ocP (ocA (ocS x 1) 6148914691236517205) (ocA x 6148914691236517205)
def oc2 (x : Int) : Int := ocP (ocA (ocS (oc1 x) 2) 3689348814741910323) (ocA (oc1 x) 3689348814741910323)
def oc3 (x : Int) : Int := ocA (ocP (ocS (oc2 x) 4) (oc2 x)) 1085102592571150095
def oc4 (x : Int) : Int := ocP (oc3 x) (ocS (oc3 x) 8)
def oc5 (x : Int) : Int := ocP (oc4 x) (ocS (oc4 x) 16)
def oc6 (x : Int) : Int := ocP (oc5 x) (ocS (oc5 x) 32)
def ocR (x : Int) : Int := IntKind.i64.wrap ((BitVec.ofInt 64 (IntKind.i64.wrap (oc6 x)) &&& BitVec.ofInt 64 127).toNat : Nat)
def pcN (s : Nat) : Nat → Nat
  | 0 => 0
  | c + 1 => pcN s c + if s.testBit c = true then 1 else 0
set_option maxRecDepth 100000 in
theorem oc_all : (List.range 4096).all (fun x => decide (ocR (x : Int) = (pcN x 12 : Int))) = true := by decide +kernel
theorem oc_law {x : Nat} (h : x < 4096) : ocR (x : Int) = (pcN x 12 : Int) := of_decide_eq_true (List.all_eq_true.1 oc_all x (List.mem_range.2 h))
end Go.Proofs.YtlmcnpbkmihjkaaDoor
