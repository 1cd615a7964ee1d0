/- Walks printed by eng.py. -/
import Derived.Test.YtlbpgnimpcflaaaP4
set_option linter.unusedSimpArgs false
set_option linter.unusedVariables false
namespace Go.Proofs.Ytlbpgnimpcflaaa
open Go.ChangeShapes Go.WideShapes Go.ChangeAt Go.RowKit
theorem endOf_back {d : Dg} (h : arcsB d = true) {c k : Nat} {b : Bool} (hc : c < d.crs.length) (hk : k < 4) (hin : entryB d c k = !b) : endOf d (arcAt d c k) b = (c, k) := by
  have hr := arcAt_bd h hc hk
  have hcn : cntP d ((arcAt d c k).toNat : Nat) b (4 * d.crs.length) = 1 := by
    have := arcsB_out h (arcAt d c k).toNat (by omega) (by omega)
    cases b
    · exact this.1
    · exact this.2
  rw [show (((arcAt d c k).toNat : Nat) : Int) = arcAt d c k by omega] at hcn
  obtain ⟨j, j1, j2, j3, j4⟩ := cntP_one hcn
  have hme : endP d (arcAt d c k) b (4 * c + k) = true := by rw [endP_at hk]; cases b <;> simp [hin]
  obtain rfl := j3 (4 * c + k) (by omega) hme
  have e := lastP_end hcn
  rw [j4] at e
  rw [← e]
  exact Prod.ext (by dsimp only; omega) (by dsimp only; omega)
theorem endOf_there {d : Dg} (h : arcsB d = true) {a : Int} (ha : 1 ≤ a ∧ a ≤ 2 * (d.crs.length : Int)) (b : Bool) : arcAt d (endOf d a b).1 (endOf d a b).2 = a ∧ entryB d (endOf d a b).1 (endOf d a b).2 = !b := by
  obtain ⟨_, _, _, h4, h5⟩ := endOf_lt h (a := a.toNat) (by omega) (by omega) b
  rw [show ((a.toNat : Nat) : Int) = a by omega] at h4 h5
  exact ⟨h4, h5⟩
theorem nb_sym {d : Dg} (h : arcsB d = true) (x k : Nat) (hx : x < d.crs.length) (hk : k < 4) : ∃ k', k' < 4 ∧ nbC d (nbC d x k) k' = x := by
  have ha := arcAt_bd h hx hk
  obtain ⟨h1, h2, _⟩ := endD h ha (entryB d x k)
  obtain ⟨h3, h4⟩ := endOf_there h ha (entryB d x k)
  refine ⟨(endOf d (arcAt d x k) (entryB d x k)).2, h2, ?_⟩
  show (endOf d (arcAt d (endOf d (arcAt d x k) (entryB d x k)).1 (endOf d (arcAt d x k) (entryB d x k)).2) (entryB d (endOf d (arcAt d x k) (entryB d x k)).1 (endOf d (arcAt d x k) (entryB d x k)).2)).1 = x
  rw [h3, h4, endOf_back h hx hk (by cases entryB d x k <;> rfl)]
theorem pcs {d : Dg} (h : arcsB d = true) : PcI d d.crs.length (pcsN d d.crs.length) := pcsN_pi h (nb_sym h) _ (Nat.le_refl _)
/-- The map from crossings to pieces. -/
def putP (i : Nat) (p : List Int) (es : List (Int × Int)) : Nat → List (Int × Int)
  | 0 => es
  | k + 1 => mp (ga p k) (i : Int) (putP i p es k)
def pmapN (pss : List (List Int)) : Nat → List (Int × Int)
  | 0 => []
  | i + 1 => putP i (ga pss i) (pmapN pss i) (ga pss i).length
theorem putP_mg (i : Nat) (p : List Int) (es : List (Int × Int)) (k : Nat) (hk : k ≤ p.length) (y : Int) : (y ∈ p.take k → mg y (putP i p es k) = some (i : Int)) ∧ (y ∉ p.take k → mg y (putP i p es k) = mg y es) := by
  induction k with
  | zero => exact ⟨fun h => by simp at h, fun _ => rfl⟩
  | succ k ih =>
    have ih := ih (by omega)
    rw [take_ga _ _ (by omega), putP, mg_mp]
    constructor
    · intro h
      by_cases e : y = ga p k
      · rw [if_pos e]
      · rw [if_neg e]
        rcases List.mem_append.1 h with h | h
        · exact ih.1 h
        · exact absurd (List.mem_singleton.1 h) e
    · intro h
      rw [List.mem_append, List.mem_singleton] at h
      rw [if_neg (fun e => h (.inr e))]
      exact ih.2 (fun e => h (.inl e))
theorem pmapN_mg {pss : List (List Int)} (hd : ∀ i j, i < pss.length → j < pss.length → ∀ y, y ∈ ga pss i → y ∈ ga pss j → i = j) (m : Nat) (hm : m ≤ pss.length) {i : Nat} (hi : i < m) {y : Int} (hy : y ∈ ga pss i) : mg y (pmapN pss m) = some (i : Int) := by
  induction m with
  | zero => omega
  | succ m ih =>
    have h := putP_mg m (ga pss m) (pmapN pss m) (ga pss m).length (Nat.le_refl _) y
    rw [List.take_length] at h
    rw [pmapN]
    by_cases e : y ∈ ga pss m
    · rw [h.1 e, hd i m (by omega) (by omega) y hy e]
    · rw [h.2 e]
      exact ih (by omega) (by
        rcases Nat.lt_or_ge i m with h1 | h1
        · exact h1
        · obtain rfl : i = m := by omega
          exact absurd hy e)
def pmap (d : Dg) : List (Int × Int) := pmapN (pcsL d) (pcsL d).length
/-- The number of a crossing's piece. -/
def pcI (d : Dg) (x : Nat) : Nat := ((mg (x : Int) (pmap d)).getD 0).toNat
theorem pcI_at {d : Dg} (h : arcsB d = true) {i x : Nat} (hi : i < (pcsL d).length) (hx : (x : Int) ∈ ga (pcsL d) i) : mg (x : Int) (pmap d) = some (i : Int) ∧ pcI d x = i := by
  have e := pmapN_mg (pcs h).dis _ (Nat.le_refl _) hi hx
  refine ⟨e, ?_⟩
  unfold pcI
  unfold pmap
  rw [show mg (x : Int) (pmapN (pcsL d) (pcsL d).length) = some (i : Int) from e]
  rfl
theorem pcI_lt {d : Dg} (h : arcsB d = true) {x : Nat} (hx : x < d.crs.length) : pcI d x < (pcsL d).length ∧ (x : Int) ∈ ga (pcsL d) (pcI d x) ∧ (mg (x : Int) (pmap d)).getD 0 = (pcI d x : Int) := by
  obtain ⟨i, hi, hm⟩ := ((pcs h).see x hx).1 ((pcs h).cov x hx)
  have hi' : i < (pcsL d).length := hi
  have hm' : (x : Int) ∈ ga (pcsL d) i := hm
  obtain ⟨h1, h2⟩ := pcI_at h hi' hm'
  rw [h2]
  exact ⟨hi', hm', by rw [h1]; rfl⟩
def fcN (d : Dg) : Nat → List Int
  | 0 => List.replicate (pcsL d).length 0
  | k + 1 => (fcN d k).set (pcI d (fcC d k)) (ga (fcN d k) (pcI d (fcC d k)) + 1)
theorem fcN_len (d : Dg) (k : Nat) : (fcN d k).length = (pcsL d).length := by
  induction k with
  | zero => exact List.length_replicate
  | succ k ih => rw [fcN, List.length_set, ih]
theorem fcN_bd (d : Dg) (k j : Nat) : 0 ≤ ga (fcN d k) j ∧ ga (fcN d k) j ≤ k := by
  induction k generalizing j with
  | zero =>
    by_cases h : j < (pcsL d).length
    · rw [fcN, ga_rep _ _ _ h]; simp
    · rw [fcN, show ga (List.replicate (pcsL d).length (0 : Int)) j = 0 from by unfold ga; simp [h]]; exact ⟨Int.le_refl _, Int.le_refl _⟩
  | succ k ih =>
    rw [fcN]
    have h1 := ih j
    have h2 := ih (pcI d (fcC d k))
    by_cases e : pcI d (fcC d k) = j
    · by_cases hl : j < (fcN d k).length
      · subst e; rw [ga_set _ _ _ _ hl, if_pos rfl]; omega
      · rw [List.set_eq_of_length_le (by omega)]; omega
    · rw [ga_set_ne _ _ _ _ e]; omega
theorem nodup_le {α : Type} [DecidableEq α] {xs ys : List α} (h : xs.Nodup) (hs : ∀ y ∈ xs, y ∈ ys) : xs.length ≤ ys.length := by
  induction xs generalizing ys with
  | nil => exact Nat.zero_le _
  | cons x xs ih =>
    rw [List.nodup_cons] at h
    have hx := hs x (by simp)
    have h1 := ih h.2 (ys := ys.erase x) (fun y hy => (List.mem_erase_of_ne (fun (e : y = x) => h.1 (by rw [← e]; exact hy))).2 (hs y (by simp [hy])))
    rw [List.length_erase_of_mem hx] at h1
    have := List.length_pos_of_mem hx
    rw [List.length_cons]
    omega
def planP (d : Dg) : Bool := (List.range (pcsL d).length).all fun i => decide (ga (fcN d (facesL d).length) i = ((ga (pcsL d) i).length : Int) + 2)
theorem planP_t {d : Dg} (h : ∀ i, i < (pcsL d).length → ga (fcN d (facesL d).length) i = ((ga (pcsL d) i).length : Int) + 2) : planP d = true := by
  unfold planP
  rw [List.all_eq_true]
  intro p hp
  exact decide_eq_true (h p (List.mem_range.1 hp))
theorem planP_f {d : Dg} {i : Nat} (hi : i < (pcsL d).length) (h : ¬ ga (fcN d (facesL d).length) i = ((ga (pcsL d) i).length : Int) + 2) : planP d = false := by
  unfold planP
  rw [List.all_eq_false]
  exact ⟨i, List.mem_range.2 hi, by simpa using h⟩
theorem pcsL_bd {d : Dg} (h : arcsB d = true) {i : Nat} (hi : i < (pcsL d).length) : (ga (pcsL d) i).length ≤ d.crs.length ∧ ∀ y ∈ ga (pcsL d) i, 0 ≤ y ∧ y < (d.crs.length : Int) := by
  obtain ⟨h1, c0, _, _, h2⟩ := (pcs h).el i hi
  have hb : ∀ y ∈ ga (pcsL d) i, 0 ≤ y ∧ y < (d.crs.length : Int) := fun y hy => by obtain ⟨z, rfl, hz, _⟩ := h2 y hy; omega
  refine ⟨?_, hb⟩
  have h3 := nodup_le (ys := (List.range d.crs.length).map fun x : Nat => (x : Int)) h1 (fun y hy => by
    obtain ⟨z, rfl, hz, _⟩ := h2 y hy
    exact List.mem_map.2 ⟨z, List.mem_range.2 hz, rfl⟩)
  rw [List.length_map, List.length_range] at h3
  exact h3

noncomputable def Planar_n0 : Code := Try.f67.body.getD .skip
noncomputable def Planar_n1 : Code := cL Planar_n0
noncomputable def Planar_n2 : Code := cR Planar_n0
noncomputable def Planar_n3 : Code := cL Planar_n2
noncomputable def Planar_n4 : Code := cR Planar_n2
noncomputable def Planar_n5 : Code := cL Planar_n4
noncomputable def Planar_n6 : Code := cR Planar_n4
noncomputable def Planar_n7 : Code := cL Planar_n6
noncomputable def Planar_n8 : Code := cR Planar_n6
noncomputable def Planar_n9 : Code := cL Planar_n7
noncomputable def Planar_n10 : Code := cR Planar_n7
noncomputable def Planar_n11 : Code := cL Planar_n10
noncomputable def Planar_n12 : Code := cL Planar_n11
noncomputable def Planar_n13 : Code := cL Planar_n12
noncomputable def Planar_n14 : Code := cR Planar_n12
noncomputable def Planar_n15 : Code := cL Planar_n14
noncomputable def Planar_n16 : Code := cR Planar_n14
noncomputable def Planar_n17 : Code := cL Planar_n15
noncomputable def Planar_n18 : Code := cR Planar_n15
noncomputable def Planar_n19 : Code := cL Planar_n16
noncomputable def Planar_n20 : Code := cR Planar_n16
noncomputable def Planar_n21 : Code := cL Planar_n19
noncomputable def Planar_n22 : Code := cL Planar_n21
noncomputable def Planar_n23 : Code := cR Planar_n21
noncomputable def Planar_n24 : Code := cL Planar_n23
noncomputable def Planar_n25 : Code := cR Planar_n23
noncomputable def Planar_n26 : Code := cL Planar_n25
noncomputable def Planar_n27 : Code := cL Planar_n26
noncomputable def Planar_n28 : Code := cL Planar_n27
noncomputable def Planar_n29 : Code := cR Planar_n27
noncomputable def Planar_n30 : Code := cL Planar_n29
noncomputable def Planar_n31 : Code := cR Planar_n29
noncomputable def Planar_n32 : Code := cL Planar_n30
noncomputable def Planar_n33 : Code := cR Planar_n30
noncomputable def Planar_n34 : Code := cL Planar_n31
noncomputable def Planar_n35 : Code := cR Planar_n31
noncomputable def Planar_n36 : Code := cL Planar_n34
noncomputable def Planar_n37 : Code := cL Planar_n36
noncomputable def Planar_n38 : Code := cR Planar_n36
noncomputable def Planar_n39 : Code := cL Planar_n8
noncomputable def Planar_n40 : Code := cR Planar_n8
noncomputable def Planar_n41 : Code := cL Planar_n40
noncomputable def Planar_n42 : Code := cR Planar_n40
noncomputable def Planar_n43 : Code := cL Planar_n41
noncomputable def Planar_n44 : Code := cR Planar_n41
noncomputable def Planar_n45 : Code := cL Planar_n44
noncomputable def Planar_n46 : Code := cL Planar_n45
noncomputable def Planar_n47 : Code := cL Planar_n46
noncomputable def Planar_n48 : Code := cR Planar_n46
noncomputable def Planar_n49 : Code := cL Planar_n48
noncomputable def Planar_n50 : Code := cR Planar_n48
noncomputable def Planar_n51 : Code := cL Planar_n49
noncomputable def Planar_n52 : Code := cR Planar_n49
noncomputable def Planar_n53 : Code := cL Planar_n50
noncomputable def Planar_n54 : Code := cR Planar_n50
noncomputable def Planar_n55 : Code := cL Planar_n53
noncomputable def Planar_n56 : Code := cL Planar_n55
noncomputable def Planar_n57 : Code := cR Planar_n55
noncomputable def Planar_n58 : Code := cL Planar_n42
noncomputable def Planar_n59 : Code := cR Planar_n42
noncomputable def Planar_n60 : Code := cL Planar_n58
noncomputable def Planar_n61 : Code := cR Planar_n58
noncomputable def Planar_n62 : Code := cL Planar_n61
noncomputable def Planar_n63 : Code := cL Planar_n62
noncomputable def Planar_n64 : Code := cL Planar_n63
noncomputable def Planar_n65 : Code := cR Planar_n63
noncomputable def Planar_n66 : Code := cL Planar_n65
noncomputable def Planar_n67 : Code := cR Planar_n65
noncomputable def Planar_n68 : Code := cL Planar_n66
noncomputable def Planar_n69 : Code := cR Planar_n66
noncomputable def Planar_n70 : Code := cL Planar_n67
noncomputable def Planar_n71 : Code := cR Planar_n67
noncomputable def Planar_n72 : Code := cL Planar_n70
noncomputable def Planar_n73 : Code := cL Planar_n72
noncomputable def Planar_n74 : Code := cR Planar_n72
noncomputable def Planar_n75 : Code := cL Planar_n74
noncomputable def Planar_n76 : Code := cR Planar_n74
noncomputable def Planar_n77 : Code := cL Planar_n76
noncomputable def Planar_n78 : Code := cR Planar_n76
noncomputable def Planar_n79 : Code := cL Planar_n77
noncomputable def Planar_n80 : Code := cR Planar_n77
noncomputable def Planar_n81 : Code := cL Planar_n59
noncomputable def Planar_n82 : Code := cR Planar_n59
set_option maxHeartbeats 1000000 in
set_option maxRecDepth 10000 in
theorem Planar_t {w : World} {M : Hp} {X : Fr} (d : Dg) {gsh : Nat} {cA iA oA : Option Addr} {cc ic oc : Nat} (hsb : BxM M gsh 81 [.slice cA d.crs.length cc, .int .i64 d.loops, .slice iA (tabL d false (4 * d.crs.length)).length ic, .slice oA (tabL d true (4 * d.crs.length)).length oc]) (hsc : RdA cdCr M cA cc d.crs) (hsi : RdA cdPl M iA ic (tabL d false (4 * d.crs.length))) (hso : RdA cdPl M oA oc (tabL d true (4 * d.crs.length))) (hn : d.crs.length ≤ 16) (hab : arcsB d = true) (S : SH w M X []) : Ct Try.prog 67 [.pointer (some ⟨gsh, 0, none⟩)] w M X (fun u _ => u = .bool (planP d)) := by
  unfold Ct
  refine calls_in (b := Planar_n0) Try.func67 rfl Try.ntmps67 rfl (fun C hC => ?_)
  refine ws_sub [(0, _)] ⟨rfl, trivial⟩ ?_
  refine ws_seqN Planar_n1 Planar_n2 rfl rfl rfl ?_
  refine ws_region rfl ?_
  refine wl_op (k := 0) (k' := 1) rfl rfl rfl (wo_run rfl rfl (run_assign rfl rfl) ?_)
  refine wl_end rfl ?_
  refine nm_sub [(0, _)] ⟨rfl, trivial⟩ ?_
  refine nm_thn ?_
  refine ws_seqN Planar_n3 Planar_n4 rfl rfl rfl ?_
  refine ws_region rfl ?_
  refine wl_op (k := 0) (k' := 1) rfl rfl rfl (wo_makeMap Int Int (Value.int .i64) (Value.int .i64) rfl rfl rfl S ?_)
  intro gm1 w1 S1; clear S
  refine wl_op (k := 1) (k' := 2) rfl rfl rfl (wo_run rfl rfl (run_assign rfl rfl) ?_)
  refine wl_end rfl ?_
  refine nm_sub [(0, _), (3, _)] ⟨rfl, rfl, trivial⟩ ?_
  refine nm_thn ?_
  refine ws_seqN Planar_n5 Planar_n6 rfl rfl rfl ?_
  refine ws_region rfl ?_
  refine wl_op (k := 0) (k' := 1) rfl rfl rfl (wo_run rfl rfl (run_move rfl rfl) ?_)
  refine wl_op (k := 1) (k' := 2) rfl rfl rfl (wo_ct rfl rfl rfl rfl rfl rfl rfl cf75 S1 (Pieces_t d (hsb.mono (Hp.le_un _ _)) (hsc.mono (Hp.le_un _ _)) (hsi.mono (Hp.le_un _ _)) (hso.mono (Hp.le_un _ _)) hn hab S1.lend) ?_)
  intro vw2 w2 M1 hle1 S2 hRw2; clear S1
  replace hsb := hsb.mono hle1
  replace hsc := hsc.mono hle1
  replace hsi := hsi.mono hle1
  replace hso := hso.mono hle1
  obtain ⟨A1, c1, vs1, rfl, hr1, hd1⟩ := hRw2
  have hlenpcsL := hd1.1
  refine wl_op (k := 2) (k' := 3) rfl rfl rfl (wo_run rfl rfl (run_assign rfl rfl) ?_)
  refine wl_end rfl ?_
  refine nm_sub [(0, _), (3, _), (4, _)] ⟨rfl, rfl, rfl, trivial⟩ ?_
  refine nm_thn ?_
  refine ws_seqN Planar_n7 Planar_n8 rfl rfl rfl ?_
  refine ws_seqN Planar_n9 Planar_n10 rfl rfl rfl ?_
  refine ws_region rfl ?_
  refine wl_op (k := 0) (k' := 1) rfl rfl rfl (wo_run rfl rfl (run_move rfl rfl) ?_)
  refine wl_op (k := 1) (k' := 2) rfl rfl rfl (wo_run rfl rfl (run_len rfl rfl rfl rfl rfl rfl Try.underlying37) ?_)
  refine wl_op (k := 2) (k' := 3) rfl rfl rfl (wo_run rfl rfl (run_move rfl rfl) ?_)
  refine wl_end rfl ?_
  refine nm_thn ?_
  refine ws_blockN Planar_n11 0 rfl rfl rfl ?_
  refine ws_loopE (fun mx_ ax_ wx_ => ∃ (i : Nat) (es : List (Int × Int)), mx_ = (pcsL d).length - i ∧ Env 75 [(0, .pointer (some ⟨gsh, 0, none⟩)), (3, .map (some gm1)), (4, .slice A1 vs1.length c1), (17, .slice A1 vs1.length c1), (18, .int .i64 (vs1.length : Int)), (19, .int .i64 (i : Int))] ax_ ∧ SH wx_ M1 X [Rs.mp (Value.int .i64) (Value.int .i64) gm1 es] ∧ i ≤ (pcsL d).length ∧ es = pmapN (pcsL d) i) rfl ?_ ?_
  · intro ax_ hax_
    refine ⟨_, ⟨0, [], rfl, hax_.sub ⟨rfl, rfl, rfl, rfl, rfl, rfl, trivial⟩, S2.pick [0] [_] (by decide) ⟨rfl, trivial⟩, ?hq1f0, ?hq1f1⟩⟩
    case hq1f0 => omega
    case hq1f1 => rfl
  · rintro m2 a1 w3 ⟨i, es, rfl, he1, S3, hi, hes⟩
    clear S2
    refine ws_in he1 (c := Planar_n12) rfl ?_
    clear he1 a1
    have hpl := pcsN_many d d.crs.length
    replace hpl : (pcsL d).length ≤ d.crs.length := hpl
    refine ws_seqN Planar_n13 Planar_n14 rfl rfl rfl ?_
    refine ws_region rfl ?_
    refine wl_op (k := 0) (k' := 1) rfl rfl rfl (wo_run rfl rfl (run_lss rfl rfl rfl) ?_)
    refine wl_end rfl ?_
    refine nm_thn ?_
    refine ws_seqN Planar_n15 Planar_n16 rfl rfl rfl ?_
    refine ws_condN Planar_n17 Planar_n18 rfl rfl rfl rfl (fun hb20 => ?_) (fun hb20 => ?_)
    · have hb20 := of_decide_eq_true hb20
      refine ws_skip rfl ?_
      refine nm_sub [(0, _), (3, _), (4, _), (17, _), (18, _), (19, _)] ⟨rfl, rfl, rfl, rfl, rfl, rfl, trivial⟩ ?_
      refine nm_thn ?_
      refine ws_seqN Planar_n19 Planar_n20 rfl rfl rfl ?_
      refine ws_blockN Planar_n21 1 rfl rfl rfl ?_
      refine ws_seqN Planar_n22 Planar_n23 rfl rfl rfl ?_
      refine ws_region rfl ?_
      refine wl_op (k := 0) (k' := 1) rfl rfl rfl (wo_run rfl rfl (run_move rfl rfl) ?_)
      refine wl_op (k := 1) (k' := 2) rfl rfl rfl (wo_run rfl rfl (run_indexM (C := (cdV 44)) i rfl rfl rfl sl37 (by first | rfl | omega) hr1 (by first | omega | (simp only [List.length_set, List.length_append, List.length_replicate, List.length_singleton, List.length_cons, List.length_nil]; omega))) ?_)
      obtain ⟨hn1, hr2⟩ := hd1.2 i (by first | omega | (simp only [List.length_set, List.length_append, List.length_replicate, List.length_singleton, List.length_cons, List.length_nil]; omega))
      have rmhr2 : (ga (pcsL d) i).length * 8 ≤ 140737488355328 := hr2.room
      refine wl_op (k := 2) (k' := 3) rfl rfl rfl (wo_run rfl rfl (run_load1 rfl rfl Try.underlying44 rfl (hr1.cell S3.m (i := i) (by first | omega | (simp only [List.length_set, List.length_append, List.length_replicate, List.length_singleton, List.length_cons, List.length_nil]; omega)) 0 rfl (congrArg (fun n => some (Value.slice _ n _)) hn1))) ?_)
      refine wl_op (k := 3) (k' := 4) rfl rfl rfl (wo_run rfl rfl (run_assign rfl rfl) ?_)
      refine wl_op (k := 4) (k' := 5) rfl rfl rfl (wo_run rfl rfl (run_assign rfl rfl) ?_)
      refine wl_end rfl ?_
      refine nm_sub [(0, _), (3, _), (4, _), (17, _), (18, _), (19, _), (5, _), (6, _)] ⟨rfl, rfl, rfl, rfl, rfl, rfl, rfl, rfl, trivial⟩ ?_
      refine nm_thn ?_
      refine ws_seqN Planar_n24 Planar_n25 rfl rfl rfl ?_
      refine ws_region rfl ?_
      refine wl_op (k := 0) (k' := 1) rfl rfl rfl (wo_run rfl rfl (run_move rfl rfl) ?_)
      refine wl_op (k := 1) (k' := 2) rfl rfl rfl (wo_run rfl rfl (run_len rfl rfl rfl rfl rfl rfl Try.underlying44) ?_)
      refine wl_op (k := 2) (k' := 3) rfl rfl rfl (wo_run rfl rfl (run_move rfl rfl) ?_)
      refine wl_end rfl ?_
      refine nm_sub [(0, _), (3, _), (4, _), (17, _), (18, _), (19, _), (5, _), (24, _), (25, _), (26, _)] ⟨rfl, rfl, rfl, rfl, rfl, rfl, rfl, rfl, rfl, rfl, trivial⟩ ?_
      refine nm_thn ?_
      refine ws_blockN Planar_n26 2 rfl rfl rfl ?_
      refine ws_loopE (fun mx_ ax_ wx_ => ∃ (k : Nat) (es2 : List (Int × Int)), mx_ = (ga (pcsL d) i).length - k ∧ Env 75 [(0, .pointer (some ⟨gsh, 0, none⟩)), (3, .map (some gm1)), (4, .slice A1 vs1.length c1), (17, .slice A1 vs1.length c1), (18, .int .i64 (vs1.length : Int)), (19, .int .i64 (i : Int)), (5, .int .i64 (i : Int)), (24, .slice ((ga vs1 i).A) (ga (pcsL d) i).length ((ga vs1 i).c)), (25, .int .i64 ((ga (pcsL d) i).length : Int)), (26, .int .i64 (k : Int))] ax_ ∧ SH wx_ M1 X [Rs.mp (Value.int .i64) (Value.int .i64) gm1 es2] ∧ k ≤ (ga (pcsL d) i).length ∧ es2 = putP i (ga (pcsL d) i) es k) rfl ?_ ?_
      · intro ax_ hax_
        refine ⟨_, ⟨0, es, rfl, hax_.sub ⟨rfl, rfl, rfl, rfl, rfl, rfl, rfl, rfl, rfl, rfl, trivial⟩, S3.pick [0] [_] (by decide) ⟨rfl, trivial⟩, ?hq2f0, ?hq2f1⟩⟩
        case hq2f0 => omega
        case hq2f1 => rfl
      · rintro m3 a2 w4 ⟨k, es2, rfl, he2, S4, hk, hes2⟩
        clear S3
        refine ws_in he2 (c := Planar_n27) rfl ?_
        clear he2 a2
        have hpb := pcsL_bd hab (i := i) (by omega)
        refine ws_seqN Planar_n28 Planar_n29 rfl rfl rfl ?_
        refine ws_region rfl ?_
        refine wl_op (k := 0) (k' := 1) rfl rfl rfl (wo_run rfl rfl (run_lss rfl rfl rfl) ?_)
        refine wl_end rfl ?_
        refine nm_thn ?_
        refine ws_seqN Planar_n30 Planar_n31 rfl rfl rfl ?_
        refine ws_condN Planar_n32 Planar_n33 rfl rfl rfl rfl (fun hb27 => ?_) (fun hb27 => ?_)
        · have hb27 := of_decide_eq_true hb27
          refine ws_skip rfl ?_
          refine nm_sub [(0, _), (3, _), (4, _), (17, _), (18, _), (19, _), (5, _), (24, _), (25, _), (26, _)] ⟨rfl, rfl, rfl, rfl, rfl, rfl, rfl, rfl, rfl, rfl, trivial⟩ ?_
          refine nm_thn ?_
          refine ws_seqN Planar_n34 Planar_n35 rfl rfl rfl ?_
          refine ws_blockN Planar_n36 3 rfl rfl rfl ?_
          refine ws_seqN Planar_n37 Planar_n38 rfl rfl rfl ?_
          refine ws_region rfl ?_
          refine wl_op (k := 0) (k' := 1) rfl rfl rfl (wo_run rfl rfl (run_indexM (C := cdInt) k rfl rfl rfl sl44 (by first | rfl | omega) hr2 (by first | omega | (simp only [List.length_set, List.length_append, List.length_replicate, List.length_singleton, List.length_cons, List.length_nil]; omega))) ?_)
          refine wl_op (k := 1) (k' := 2) rfl rfl rfl (wo_run rfl rfl (run_load1 rfl rfl Try.underlying3 rfl (hr2.cell S4.m (i := k) (by first | omega | (simp only [List.length_set, List.length_append, List.length_replicate, List.length_singleton, List.length_cons, List.length_nil]; omega)) 0 rfl rfl)) ?_)
          refine wl_op (k := 2) (k' := 3) rfl rfl rfl (wo_run rfl rfl (run_assign rfl rfl) ?_)
          refine wl_end rfl ?_
          refine nm_sub [(0, _), (3, _), (4, _), (17, _), (18, _), (19, _), (5, _), (24, _), (25, _), (26, _), (8, _)] ⟨rfl, rfl, rfl, rfl, rfl, rfl, rfl, rfl, rfl, rfl, rfl, trivial⟩ ?_
          refine nm_thn ?_
          refine ws_region rfl ?_
          refine wl_op (k := 0) (k' := 1) rfl rfl rfl (wo_run rfl rfl (run_move rfl rfl) ?_)
          refine wl_op (k := 1) (k' := 2) rfl rfl rfl (wo_run rfl rfl (run_move rfl rfl) ?_)
          refine wl_op (k := 2) (k' := 3) rfl rfl rfl (wo_run rfl rfl (run_move rfl rfl) ?_)
          refine wl_op (k := 3) (k' := 4) rfl rfl rfl (wo_mapUpdate (kc := Value.int .i64) (vc := Value.int .i64) (es := es2) (k := (ga (ga (pcsL d) i) k)) (e := (i : Int)) (i := 0) (H' := [_]) rfl rfl S4 rfl rfl rfl rfl Try.underlying124 mk3 rfl ?_)
          intro w5 S5; clear S4
          refine wl_end rfl ?_
          refine nm_blk ?_
          refine nm_sub [(0, _), (3, _), (4, _), (17, _), (18, _), (19, _), (5, _), (24, _), (25, _), (26, _)] ⟨rfl, rfl, rfl, rfl, rfl, rfl, rfl, rfl, rfl, rfl, trivial⟩ ?_
          refine nm_thn ?_
          refine ws_region rfl ?_
          refine wl_op (k := 0) (k' := 1) rfl rfl rfl (wo_run rfl rfl (run_add rfl rfl rfl (by first | omega | (simp only [List.length_set, List.length_append, List.length_replicate, List.length_singleton, List.length_cons, List.length_nil]; omega))) ?_)
          refine wl_op (k := 1) (k' := 2) rfl rfl rfl (wo_run rfl rfl (run_move rfl rfl) ?_)
          refine wl_end rfl ?_
          refine nm_lp ?_
          intro ax_ hax_
          refine ⟨_, ?hq3m, ⟨k + 1, _, rfl, hax_.sub ⟨rfl, rfl, rfl, rfl, rfl, rfl, rfl, rfl, rfl, rfl, trivial⟩, S5.pick [0] [_] (by decide) ⟨rfl, trivial⟩, ?hq3f0, ?hq3f1⟩⟩
          case hq3f0 => omega
          case hq3f1 => (rw [hes2]; rfl)
          case hq3m => omega
        · have hb27 := of_decide_eq_false hb27
          refine ws_exit rfl rfl ?_
          refine nm_blk ?_
          refine nm_sub [(0, _), (3, _), (4, _), (17, _), (18, _), (19, _)] ⟨rfl, rfl, rfl, rfl, rfl, rfl, trivial⟩ ?_
          refine nm_thn ?_
          refine ws_region rfl ?_
          refine wl_op (k := 0) (k' := 1) rfl rfl rfl (wo_run rfl rfl (run_add rfl rfl rfl (by first | omega | (simp only [List.length_set, List.length_append, List.length_replicate, List.length_singleton, List.length_cons, List.length_nil]; omega))) ?_)
          refine wl_op (k := 1) (k' := 2) rfl rfl rfl (wo_run rfl rfl (run_move rfl rfl) ?_)
          refine wl_end rfl ?_
          refine nm_lp ?_
          intro ax_ hax_
          refine ⟨_, ?hq4m, ⟨i + 1, _, rfl, hax_.sub ⟨rfl, rfl, rfl, rfl, rfl, rfl, trivial⟩, S4.pick [0] [_] (by decide) ⟨rfl, trivial⟩, ?hq4f0, ?hq4f1⟩⟩
          case hq4f0 => omega
          case hq4f1 => (obtain rfl : k = (ga (pcsL d) i).length := (by omega); rw [hes2, hes]; rfl)
          case hq4m => omega
    · have hb20 := of_decide_eq_false hb20
      have hesd : es = pmap d := by rw [hes, show i = (pcsL d).length by omega]; rfl
      have hpl0 := pcsN_many d d.crs.length
      replace hpl0 : (pcsL d).length ≤ d.crs.length := hpl0
      refine ws_exit rfl rfl ?_
      refine nm_sub [(0, _), (3, _), (4, _)] ⟨rfl, rfl, rfl, trivial⟩ ?_
      refine nm_thn ?_
      refine ws_seqN Planar_n39 Planar_n40 rfl rfl rfl ?_
      refine ws_region rfl ?_
      refine wl_op (k := 0) (k' := 1) rfl rfl rfl (wo_run rfl rfl (run_move rfl rfl) ?_)
      refine wl_op (k := 1) (k' := 2) rfl rfl rfl (wo_run rfl rfl (run_len rfl rfl rfl rfl rfl rfl Try.underlying37) ?_)
      refine wl_op (k := 2) (k' := 3) rfl rfl rfl (wo_make (C := cdInt) vs1.length rfl rfl rfl rfl rfl sl44 (by first | rfl | omega) (by show _ * 8 ≤ _; first | omega | (simp only [List.length_set, List.length_append, List.length_replicate, List.length_singleton, List.length_cons, List.length_nil]; omega)) S3 ?_)
      intro vr1 w6 S6; clear S3
      refine wl_op (k := 3) (k' := 4) rfl rfl rfl (wo_run rfl rfl (run_assign rfl rfl) ?_)
      refine wl_end rfl ?_
      refine nm_sub [(0, _), (3, _), (4, _), (9, _)] ⟨rfl, rfl, rfl, rfl, trivial⟩ ?_
      refine nm_thn ?_
      refine ws_seqN Planar_n41 Planar_n42 rfl rfl rfl ?_
      refine ws_seqN Planar_n43 Planar_n44 rfl rfl rfl ?_
      refine ws_region rfl ?_
      refine wl_op (k := 0) (k' := 1) rfl rfl rfl (wo_run rfl rfl (run_move rfl rfl) ?_)
      refine wl_op (k := 1) (k' := 2) rfl rfl rfl (wo_ct rfl rfl rfl rfl rfl rfl rfl cf66 S6 (InF.Faces_t d hsb hsc hsi hso hn hab S6.lend) ?_)
      intro vw7 w7 M2 hle4 S7 hRw7; clear S6
      replace hsb := hsb.mono hle4
      replace hsc := hsc.mono hle4
      replace hsi := hsi.mono hle4
      replace hso := hso.mono hle4
      replace hr1 := hr1.mono hle4
      replace hd1 := hd1.mono hle4
      obtain ⟨A2, c2, vs2, rfl, hr3, hd2⟩ := hRw7
      have hlenfacesL := hd2.1
      refine wl_op (k := 2) (k' := 3) rfl rfl rfl (wo_run rfl rfl (run_len rfl rfl rfl rfl rfl rfl Try.underlying54) ?_)
      refine wl_op (k := 3) (k' := 4) rfl rfl rfl (wo_run rfl rfl (run_move rfl rfl) ?_)
      refine wl_end rfl ?_
      refine nm_sub [(0, _), (3, _), (4, _), (9, _), (39, _), (40, _), (41, _)] ⟨rfl, rfl, rfl, rfl, rfl, rfl, rfl, trivial⟩ ?_
      refine nm_thn ?_
      refine ws_blockN Planar_n45 4 rfl rfl rfl ?_
      refine ws_loopE (fun mx_ ax_ wx_ => ∃ (k : Nat) (fs : List Int) (vrf : Value), mx_ = (facesL d).length - k ∧ Env 75 [(0, .pointer (some ⟨gsh, 0, none⟩)), (3, .map (some gm1)), (4, .slice A1 vs1.length c1), (9, vrf), (39, .slice A2 vs2.length c2), (40, .int .i64 (vs2.length : Int)), (41, .int .i64 (k : Int))] ax_ ∧ SH wx_ M2 X [Rs.row cdInt vrf fs, Rs.mp (Value.int .i64) (Value.int .i64) gm1 es] ∧ k ≤ (facesL d).length ∧ fs = fcN d k) rfl ?_ ?_
      · intro ax_ hax_
        refine ⟨_, ⟨0, _, _, rfl, hax_.sub ⟨rfl, rfl, rfl, rfl, rfl, rfl, rfl, trivial⟩, S7.pick [0, 1] [_, _] (by decide) ⟨rfl, rfl, trivial⟩, ?hq5f0, ?hq5f1⟩⟩
        case hq5f0 => omega
        case hq5f1 => (rw [hlenpcsL]; rfl)
      · rintro m4 a3 w8 ⟨k, fs, vrf, rfl, he3, S8, hk, hfs⟩
        clear S7
        refine ws_in he3 (c := Planar_n46) rfl ?_
        clear he3 a3
        have hfm := facesL_many d
        have hfl2 : fs.length = (pcsL d).length := by rw [hfs, fcN_len]
        refine ws_seqN Planar_n47 Planar_n48 rfl rfl rfl ?_
        refine ws_region rfl ?_
        refine wl_op (k := 0) (k' := 1) rfl rfl rfl (wo_run rfl rfl (run_lss rfl rfl rfl) ?_)
        refine wl_end rfl ?_
        refine nm_thn ?_
        refine ws_seqN Planar_n49 Planar_n50 rfl rfl rfl ?_
        refine ws_condN Planar_n51 Planar_n52 rfl rfl rfl rfl (fun hb42 => ?_) (fun hb42 => ?_)
        · have hb42 := of_decide_eq_true hb42
          obtain ⟨hh0, hok⟩ := hd0_ok (d := d) (k := k) (by omega)
          have hfc := fcC_lt hab (k := k) (by omega)
          have hpi := pcI_lt hab hfc
          obtain ⟨hpi1, hpi2, hpi3⟩ := hpi
          rw [← hesd] at hpi3
          have hfb := fcN_bd d k (pcI d (fcC d k))
          rw [← hfs] at hfb
          refine ws_skip rfl ?_
          refine nm_sub [(0, _), (3, _), (4, _), (9, _), (39, _), (40, _), (41, _)] ⟨rfl, rfl, rfl, rfl, rfl, rfl, rfl, trivial⟩ ?_
          refine nm_thn ?_
          refine ws_seqN Planar_n53 Planar_n54 rfl rfl rfl ?_
          refine ws_blockN Planar_n55 5 rfl rfl rfl ?_
          refine ws_seqN Planar_n56 Planar_n57 rfl rfl rfl ?_
          refine ws_region rfl ?_
          refine wl_op (k := 0) (k' := 1) rfl rfl rfl (wo_run rfl rfl (run_indexM (C := (cdV 100)) k rfl rfl rfl sl54 (by first | rfl | omega) hr3 (by first | omega | (simp only [List.length_set, List.length_append, List.length_replicate, List.length_singleton, List.length_cons, List.length_nil]; omega))) ?_)
          obtain ⟨hn2, hr4⟩ := hd2.2 k (by first | omega | (simp only [List.length_set, List.length_append, List.length_replicate, List.length_singleton, List.length_cons, List.length_nil]; omega))
          have rmhr4 : (ga (facesL d) k).length * 16 ≤ 140737488355328 := hr4.room
          refine wl_op (k := 1) (k' := 2) rfl rfl rfl (wo_run rfl rfl (run_load1 rfl rfl Try.underlying100 rfl (hr3.cell S8.m (i := k) (by first | omega | (simp only [List.length_set, List.length_append, List.length_replicate, List.length_singleton, List.length_cons, List.length_nil]; omega)) 0 rfl (congrArg (fun n => some (Value.slice _ n _)) hn2))) ?_)
          refine wl_op (k := 2) (k' := 3) rfl rfl rfl (wo_run rfl rfl (run_assign rfl rfl) ?_)
          refine wl_end rfl ?_
          refine nm_sub [(0, _), (3, _), (4, _), (9, _), (39, _), (40, _), (41, _), (11, _)] ⟨rfl, rfl, rfl, rfl, rfl, rfl, rfl, rfl, trivial⟩ ?_
          refine nm_thn ?_
          refine ws_region rfl ?_
          refine wl_op (k := 0) (k' := 1) rfl rfl rfl (wo_run rfl rfl (run_move rfl rfl) ?_)
          refine wl_op (k := 1) (k' := 2) rfl rfl rfl (wo_run rfl rfl (run_move rfl rfl) ?_)
          refine wl_op (k := 2) (k' := 3) rfl rfl rfl (wo_run rfl rfl (run_move rfl rfl) ?_)
          refine wl_op (k := 3) (k' := 4) rfl rfl rfl (wo_run rfl rfl (run_move rfl rfl) ?_)
          refine wl_op (k := 4) (k' := 5) rfl rfl rfl (wo_run rfl rfl (run_indexM (C := cdDa) 0 rfl rfl rfl sl100 (by first | rfl | omega) hr4 (by first | omega | (simp only [List.length_set, List.length_append, List.length_replicate, List.length_singleton, List.length_cons, List.length_nil]; omega))) ?_)
          refine wl_op (k := 5) (k' := 6) rfl rfl rfl (wo_run rfl rfl (run_loadN (us := [_, _]) rfl rfl Try.underlying102 rfl sz102 (hr4.cellsAt S8.m (e := 0) (by first | omega | (simp only [List.length_set, List.length_append, List.length_replicate, List.length_singleton, List.length_cons, List.length_nil]; omega)) (j := 0) ⟨rfl, rfl, trivial⟩)) ?_)
          refine wl_op (k := 6) (k' := 7) rfl rfl rfl (wo_cq rfl rfl rfl rfl rfl rfl rfl cf88 S8 (Head_q d (ga (ga (facesL d) k) 0) (hsb.mono (Hp.le_un _ _)) (hsc.mono (Hp.le_un _ _)) (hsi.mono (Hp.le_un _ _)) (hso.mono (Hp.le_un _ _)) (by first | assumption | omega) hab (by first | assumption | omega) S8.lend) ?_)
          rintro _ w9 S9 rfl; clear S8
          refine wl_op (k := 7) (k' := 8) rfl rfl rfl (wo_run rfl rfl (run_field0 rfl rfl Try.underlying84 rfl Try.underlying3 rfl rfl) ?_)
          refine wl_op (k := 8) (k' := 9) rfl rfl rfl (wo_run rfl rfl (run_lookup (kc := Value.int .i64) (vc := Value.int .i64) (es := es) (k := ((endOf d (ga (ga (facesL d) k) 0).a (ga (ga (facesL d) k) 0).b).1 : Int)) (zv := 0) (i := 1) rfl rfl rfl Try.underlying124 mk3 zr3 S9 rfl) ?_)
          refine wl_eq 53 (.int .i64 (pcI d (fcC d k) : Int)) rfl (int_eq hpi3) ?_
          refine wl_op (k := 9) (k' := 10) rfl rfl rfl (wo_run rfl rfl (run_indexR (C := cdInt) (i := 0) (pcI d (fcC d k)) rfl rfl rfl sl44 S9 rfl (by first | rfl | omega) (by first | omega | (simp only [List.length_set, List.length_append, List.length_replicate, List.length_singleton, List.length_cons, List.length_nil]; omega))) ?_)
          refine wl_op (k := 10) (k' := 11) rfl rfl rfl (wo_run rfl rfl (run_load1 rfl rfl Try.underlying3 rfl (S9.rowc (i := 0) (e := pcI d (fcC d k)) (j := 0) rfl (by first | omega | (simp only [List.length_set, List.length_append, List.length_replicate, List.length_singleton, List.length_cons, List.length_nil]; omega)) rfl rfl)) ?_)
          refine wl_op (k := 11) (k' := 12) rfl rfl rfl (wo_run rfl rfl (run_add rfl rfl rfl (by first | omega | (simp only [List.length_set, List.length_append, List.length_replicate, List.length_singleton, List.length_cons, List.length_nil]; omega))) ?_)
          refine wl_op (k := 12) (k' := 13) rfl rfl rfl (wo_run rfl rfl (run_indexR (C := cdInt) (i := 0) (pcI d (fcC d k)) rfl rfl rfl sl44 S9 rfl (by first | rfl | omega) (by first | omega | (simp only [List.length_set, List.length_append, List.length_replicate, List.length_singleton, List.length_cons, List.length_nil]; omega))) ?_)
          refine wl_op (k := 13) (k' := 14) rfl rfl rfl (wo_storeR (C := cdInt) (i := 0) (e := pcI d (fcC d k)) (j := 0) (us := [_]) (H' := [_, _]) ((ga fs (pcI d (fcC d k))) + 1) rfl rfl S9 rfl (by first | omega | (simp only [List.length_set, List.length_append, List.length_replicate, List.length_singleton, List.length_cons, List.length_nil]; omega)) rfl rfl rfl sz3 rfl rfl rfl rfl ?_)
          intro w10 S10; clear S9
          refine wl_end rfl ?_
          refine nm_blk ?_
          refine nm_sub [(0, _), (3, _), (4, _), (9, _), (39, _), (40, _), (41, _)] ⟨rfl, rfl, rfl, rfl, rfl, rfl, rfl, trivial⟩ ?_
          refine nm_thn ?_
          refine ws_region rfl ?_
          refine wl_op (k := 0) (k' := 1) rfl rfl rfl (wo_run rfl rfl (run_add rfl rfl rfl (by first | omega | (simp only [List.length_set, List.length_append, List.length_replicate, List.length_singleton, List.length_cons, List.length_nil]; omega))) ?_)
          refine wl_op (k := 1) (k' := 2) rfl rfl rfl (wo_run rfl rfl (run_move rfl rfl) ?_)
          refine wl_end rfl ?_
          refine nm_lp ?_
          intro ax_ hax_
          refine ⟨_, ?hq6m, ⟨k + 1, _, _, rfl, hax_.sub ⟨rfl, rfl, rfl, rfl, rfl, rfl, rfl, trivial⟩, S10.pick [0, 1] [_, _] (by decide) ⟨rfl, rfl, trivial⟩, ?hq6f0, ?hq6f1⟩⟩
          case hq6f0 => omega
          case hq6f1 => (rw [hfs]; rfl)
          case hq6m => omega
        · have hb42 := of_decide_eq_false hb42
          have hfs3 : fs = fcN d (facesL d).length := by rw [hfs, show k = (facesL d).length by omega]
          refine ws_exit rfl rfl ?_
          refine nm_sub [(4, _), (9, _)] ⟨rfl, rfl, trivial⟩ ?_
          refine nm_thn ?_
          refine ws_seqN Planar_n58 Planar_n59 rfl rfl rfl ?_
          refine ws_seqN Planar_n60 Planar_n61 rfl rfl rfl ?_
          refine ws_region rfl ?_
          refine wl_op (k := 0) (k' := 1) rfl rfl rfl (wo_run rfl rfl (run_move rfl rfl) ?_)
          refine wl_op (k := 1) (k' := 2) rfl rfl rfl (wo_run rfl rfl (run_len rfl rfl rfl rfl rfl rfl Try.underlying37) ?_)
          refine wl_op (k := 2) (k' := 3) rfl rfl rfl (wo_run rfl rfl (run_move rfl rfl) ?_)
          refine wl_end rfl ?_
          refine nm_sub [(9, _), (59, _), (60, _), (61, _)] ⟨rfl, rfl, rfl, rfl, trivial⟩ ?_
          refine nm_thn ?_
          refine ws_blockN Planar_n62 6 rfl rfl rfl ?_
          refine ws_loopE (fun mx_ ax_ wx_ => ∃ (j : Nat), mx_ = (pcsL d).length - j ∧ Env 75 [(9, vrf), (59, .slice A1 vs1.length c1), (60, .int .i64 (vs1.length : Int)), (61, .int .i64 (j : Int))] ax_ ∧ SH wx_ M2 X [Rs.row cdInt vrf fs] ∧ j ≤ (pcsL d).length ∧ (∀ q, q < j → ga fs q = ((ga (pcsL d) q).length : Int) + 2)) rfl ?_ ?_
          · intro ax_ hax_
            refine ⟨_, ⟨0, rfl, hax_.sub ⟨rfl, rfl, rfl, rfl, trivial⟩, S8.pick [0] [_] (by decide) ⟨rfl, trivial⟩, ?hq7f0, ?hq7f1⟩⟩
            case hq7f0 => omega
            case hq7f1 => (intro q hq; omega)
          · rintro m5 a4 w11 ⟨j, rfl, he4, S11, hj, hall⟩
            clear S8
            refine ws_in he4 (c := Planar_n63) rfl ?_
            clear he4 a4
            have hpl := pcsN_many d d.crs.length
            replace hpl : (pcsL d).length ≤ d.crs.length := hpl
            have hfl2 : fs.length = (pcsL d).length := by rw [hfs3, fcN_len]
            refine ws_seqN Planar_n64 Planar_n65 rfl rfl rfl ?_
            refine ws_region rfl ?_
            refine wl_op (k := 0) (k' := 1) rfl rfl rfl (wo_run rfl rfl (run_lss rfl rfl rfl) ?_)
            refine wl_end rfl ?_
            refine nm_thn ?_
            refine ws_seqN Planar_n66 Planar_n67 rfl rfl rfl ?_
            refine ws_condN Planar_n68 Planar_n69 rfl rfl rfl rfl (fun hb62 => ?_) (fun hb62 => ?_)
            · have hb62 := of_decide_eq_true hb62
              have hpb := pcsL_bd hab (i := j) (by omega)
              refine ws_skip rfl ?_
              refine nm_sub [(9, _), (59, _), (60, _), (61, _)] ⟨rfl, rfl, rfl, rfl, trivial⟩ ?_
              refine nm_thn ?_
              refine ws_seqN Planar_n70 Planar_n71 rfl rfl rfl ?_
              refine ws_blockN Planar_n72 7 rfl rfl rfl ?_
              refine ws_seqN Planar_n73 Planar_n74 rfl rfl rfl ?_
              refine ws_region rfl ?_
              refine wl_op (k := 0) (k' := 1) rfl rfl rfl (wo_run rfl rfl (run_move rfl rfl) ?_)
              refine wl_op (k := 1) (k' := 2) rfl rfl rfl (wo_run rfl rfl (run_indexM (C := (cdV 44)) j rfl rfl rfl sl37 (by first | rfl | omega) hr1 (by first | omega | (simp only [List.length_set, List.length_append, List.length_replicate, List.length_singleton, List.length_cons, List.length_nil]; omega))) ?_)
              obtain ⟨hn3, hr5⟩ := hd1.2 j (by first | omega | (simp only [List.length_set, List.length_append, List.length_replicate, List.length_singleton, List.length_cons, List.length_nil]; omega))
              have rmhr5 : (ga (pcsL d) j).length * 8 ≤ 140737488355328 := hr5.room
              refine wl_op (k := 2) (k' := 3) rfl rfl rfl (wo_run rfl rfl (run_load1 rfl rfl Try.underlying44 rfl (hr1.cell S11.m (i := j) (by first | omega | (simp only [List.length_set, List.length_append, List.length_replicate, List.length_singleton, List.length_cons, List.length_nil]; omega)) 0 rfl (congrArg (fun n => some (Value.slice _ n _)) hn3))) ?_)
              refine wl_op (k := 3) (k' := 4) rfl rfl rfl (wo_run rfl rfl (run_assign rfl rfl) ?_)
              refine wl_op (k := 4) (k' := 5) rfl rfl rfl (wo_run rfl rfl (run_assign rfl rfl) ?_)
              refine wl_end rfl ?_
              refine nm_sub [(9, _), (59, _), (60, _), (61, _), (12, _), (13, _)] ⟨rfl, rfl, rfl, rfl, rfl, rfl, trivial⟩ ?_
              refine nm_thn ?_
              refine ws_seqN Planar_n75 Planar_n76 rfl rfl rfl ?_
              refine ws_region rfl ?_
              refine wl_op (k := 0) (k' := 1) rfl rfl rfl (wo_run rfl rfl (run_move rfl rfl) ?_)
              refine wl_op (k := 1) (k' := 2) rfl rfl rfl (wo_run rfl rfl (run_move rfl rfl) ?_)
              refine wl_op (k := 2) (k' := 3) rfl rfl rfl (wo_run rfl rfl (run_indexR (C := cdInt) (i := 0) j rfl rfl rfl sl44 S11 rfl (by first | rfl | omega) (by first | omega | (simp only [List.length_set, List.length_append, List.length_replicate, List.length_singleton, List.length_cons, List.length_nil]; omega))) ?_)
              refine wl_op (k := 3) (k' := 4) rfl rfl rfl (wo_run rfl rfl (run_load1 rfl rfl Try.underlying3 rfl (S11.rowc (i := 0) (e := j) (j := 0) rfl (by first | omega | (simp only [List.length_set, List.length_append, List.length_replicate, List.length_singleton, List.length_cons, List.length_nil]; omega)) rfl rfl)) ?_)
              refine wl_op (k := 4) (k' := 5) rfl rfl rfl (wo_run rfl rfl (run_move rfl rfl) ?_)
              refine wl_op (k := 5) (k' := 6) rfl rfl rfl (wo_run rfl rfl (run_len rfl rfl rfl rfl rfl rfl Try.underlying44) ?_)
              refine wl_op (k := 6) (k' := 7) rfl rfl rfl (wo_run rfl rfl (run_add rfl rfl rfl (by first | omega | (simp only [List.length_set, List.length_append, List.length_replicate, List.length_singleton, List.length_cons, List.length_nil]; omega))) ?_)
              refine wl_op (k := 7) (k' := 8) rfl rfl rfl (wo_run rfl rfl (run_neq rfl rfl rfl) ?_)
              refine wl_end rfl ?_
              refine nm_sub [(9, _), (59, _), (60, _), (61, _), (73, _)] ⟨rfl, rfl, rfl, rfl, rfl, trivial⟩ ?_
              refine nm_thn ?_
              refine ws_condN Planar_n77 Planar_n78 rfl rfl rfl rfl (fun hb73 => ?_) (fun hb73 => ?_)
              · have hb73 := of_decide_eq_true hb73
                refine ws_seqN Planar_n79 Planar_n80 rfl rfl rfl ?_
                refine ws_region rfl ?_
                refine wl_op (k := 0) (k' := 1) rfl rfl rfl (wo_run rfl rfl (run_assign rfl rfl) ?_)
                refine wl_end rfl ?_
                refine nm_sub [(2, _)] ⟨rfl, trivial⟩ ?_
                refine nm_thn ?_
                refine ws_ret hC [_] rfl rfl ⟨rfl, trivial⟩ ?_
                refine ⟨_, rfl, _, hle1.trans hle4, (S11.pick [] [] (by decide) trivial), ?_⟩
                refine congrArg Value.bool (planP_f (i := j) (by omega) ?_).symm
                rw [← hfs3]; omega
              · have hb73 := of_decide_eq_false hb73
                refine ws_skip rfl ?_
                refine nm_blk ?_
                refine nm_sub [(9, _), (59, _), (60, _), (61, _)] ⟨rfl, rfl, rfl, rfl, trivial⟩ ?_
                refine nm_thn ?_
                refine ws_region rfl ?_
                refine wl_op (k := 0) (k' := 1) rfl rfl rfl (wo_run rfl rfl (run_add rfl rfl rfl (by first | omega | (simp only [List.length_set, List.length_append, List.length_replicate, List.length_singleton, List.length_cons, List.length_nil]; omega))) ?_)
                refine wl_op (k := 1) (k' := 2) rfl rfl rfl (wo_run rfl rfl (run_move rfl rfl) ?_)
                refine wl_end rfl ?_
                refine nm_lp ?_
                intro ax_ hax_
                refine ⟨_, ?hq8m, ⟨j + 1, rfl, hax_.sub ⟨rfl, rfl, rfl, rfl, trivial⟩, S11.pick [0] [_] (by decide) ⟨rfl, trivial⟩, ?hq8f0, ?hq8f1⟩⟩
                case hq8f0 => omega
                case hq8f1 => (intro q hq; by_cases h : q = j; (subst h; omega); exact hall q (by omega))
                case hq8m => omega
            · have hb62 := of_decide_eq_false hb62
              refine ws_exit rfl rfl ?_
              refine nm_sub [] trivial ?_
              refine nm_thn ?_
              refine ws_seqN Planar_n81 Planar_n82 rfl rfl rfl ?_
              refine ws_region rfl ?_
              refine wl_op (k := 0) (k' := 1) rfl rfl rfl (wo_run rfl rfl (run_assign rfl rfl) ?_)
              refine wl_end rfl ?_
              refine nm_thn ?_
              refine ws_ret hC [_] rfl rfl ⟨rfl, trivial⟩ ?_
              refine ⟨_, rfl, _, hle1.trans hle4, (S11.pick [] [] (by decide) trivial), ?_⟩
              exact congrArg Value.bool (planP_t (d := d) (fun q hq => by rw [← hfs3]; exact hall q (by omega))).symm

end Go.Proofs.Ytlbpgnimpcflaaa
