/- Walks printed by eng.py. -/
import Derived.Test.YtlbpgnimpcflaaaP1
set_option linter.unusedSimpArgs false
set_option linter.unusedVariables false
namespace Go.Proofs.Ytlbpgnimpcflaaa
open Go.ChangeShapes Go.WideShapes Go.ChangeAt Go.RowKit
theorem ringF_pre (nx : Nat → Nat) (seen : List Bool) (x : Nat) (acc : List Int) : ∃ t, (ringF nx seen x acc).2 = acc ++ t := by
  induction hk : free seen using Nat.strongRecOn generalizing seen x acc with
  | _ k ih =>
    by_cases h : x < seen.length ∧ ga seen x = false
    · rw [ringF_go h.1 h.2]
      have := free_set h.1 h.2
      obtain ⟨t, ht⟩ := ih (free (seen.set x true)) (by omega) (seen.set x true) (nx x) (acc ++ [(x : Int)]) rfl
      exact ⟨(x : Int) :: t, by rw [ht]; simp⟩
    · refine ⟨[], ?_⟩
      rw [ringF]
      simp [h]
theorem facesN_head (d : Dg) (k : Nat) (hk : k ≤ 4 * d.crs.length) : ∀ r ∈ (facesN d k).2, ∃ (c : Nat) (t : List Int), r = (c : Int) :: t ∧ 2 ≤ c ∧ c < 4 * d.crs.length + 2 := by
  induction k with
  | zero => intro r hr; simp [facesN] at hr
  | succ k ih =>
    by_cases hg : ga (facesN d k).1 (k + 2) = true
    · rw [facesN_skip rfl hg]; exact ih (by omega)
    · rw [facesN_ring rfl (by simpa using hg) rfl]
      intro r hr
      rcases List.mem_append.1 hr with hr | hr
      · exact ih (by omega) r hr
      · rw [List.mem_singleton] at hr
        subst hr
        have hl := facesN_len d k
        rw [ringF_go (by omega) (by simpa using hg)]
        obtain ⟨t, ht⟩ := ringF_pre (nxC d) ((facesN d k).1.set (k + 2) true) (nxC d (k + 2)) ([] ++ [((k + 2 : Nat) : Int)])
        exact ⟨k + 2, t, by rw [ht]; rfl, by omega, by omega⟩
def hd0 (d : Dg) (k : Nat) : Da := ga (ga (facesL d) k) 0
theorem hd0_ok {d : Dg} {k : Nat} (hk : k < (facesL d).length) : 0 < (ga (facesL d) k).length ∧ okD d (hd0 d k) := by
  have hm : ga (facesL d) k ∈ facesL d := by rw [ga_eq hk]; exact List.getElem_mem hk
  unfold facesL facesD at hm
  rw [List.mem_map] at hm
  obtain ⟨r, hr, e⟩ := hm
  obtain ⟨c, t, rfl, h1, h2⟩ := facesN_head d _ (Nat.le_refl _) r hr
  have e' : ga (facesL d) k = dA c :: dasL t := e.symm
  refine ⟨by rw [e']; simp, ?_⟩
  unfold hd0
  rw [e']
  exact dA_ok ⟨h1, h2⟩
/-- The crossing at which the first dart of a face ends. -/
def fcC (d : Dg) (k : Nat) : Nat := (endOf d (hd0 d k).a (hd0 d k).b).1
theorem fcC_lt {d : Dg} (h : arcsB d = true) {k : Nat} (hk : k < (facesL d).length) : fcC d k < d.crs.length := (endD h (hd0_ok hk).2 (hd0 d k).b).1
def negW (ws : List Int) (p : Int) : Nat → Int
  | 0 => 0
  | k + 1 => if ga ws k = p then negW ws p k - 1 else negW ws p k
def facW (d : Dg) (ws : List Int) (p : Int) (m : Int) : Nat → Int
  | 0 => m
  | k + 1 => if ga ws (fcC d k) = p then facW d ws p m k + 1 else facW d ws p m k
def rootOk (d : Dg) (p : Nat) : Bool := decide (ga (whoL d) p ≠ (p : Int)) || decide (facW d (whoL d) p (negW (whoL d) p d.crs.length) (facesL d).length = 2)
def planIs (d : Dg) : Bool := (List.range d.crs.length).all (rootOk d)
theorem planIs_t {d : Dg} (h : ∀ p, p < d.crs.length → rootOk d p = true) : planIs d = true := by
  unfold planIs
  rw [List.all_eq_true]
  intro p hp
  exact h p (List.mem_range.1 hp)
theorem planIs_f {d : Dg} {p : Nat} (hp : p < d.crs.length) (h : rootOk d p = false) : planIs d = false := by
  unfold planIs
  rw [List.all_eq_false]
  exact ⟨p, List.mem_range.2 hp, by rw [h]; decide⟩
theorem negW_bd (ws : List Int) (p : Int) (k : Nat) : -(k : Int) ≤ negW ws p k ∧ negW ws p k ≤ 0 := by
  induction k with
  | zero => simp [negW]
  | succ k ih => rw [negW]; split <;> omega
theorem facW_bd (d : Dg) (ws : List Int) (p m : Int) (k : Nat) : m ≤ facW d ws p m k ∧ facW d ws p m k ≤ m + k := by
  induction k with
  | zero => simp [facW]
  | succ k ih => rw [facW]; split <;> omega
theorem facesL_many (d : Dg) : (facesL d).length ≤ 4 * d.crs.length := by
  unfold facesL facesD
  rw [List.length_map]
  exact facesN_many d _

noncomputable def PlanarIs_n0 : Code := Try.f37.body.getD .skip
noncomputable def PlanarIs_n1 : Code := cL PlanarIs_n0
noncomputable def PlanarIs_n2 : Code := cR PlanarIs_n0
noncomputable def PlanarIs_n3 : Code := cL PlanarIs_n2
noncomputable def PlanarIs_n4 : Code := cR PlanarIs_n2
noncomputable def PlanarIs_n5 : Code := cL PlanarIs_n4
noncomputable def PlanarIs_n6 : Code := cR PlanarIs_n4
noncomputable def PlanarIs_n7 : Code := cL PlanarIs_n6
noncomputable def PlanarIs_n8 : Code := cR PlanarIs_n6
noncomputable def PlanarIs_n9 : Code := cL PlanarIs_n7
noncomputable def PlanarIs_n10 : Code := cR PlanarIs_n7
noncomputable def PlanarIs_n11 : Code := cL PlanarIs_n10
noncomputable def PlanarIs_n12 : Code := cL PlanarIs_n11
noncomputable def PlanarIs_n13 : Code := cL PlanarIs_n12
noncomputable def PlanarIs_n14 : Code := cR PlanarIs_n12
noncomputable def PlanarIs_n15 : Code := cL PlanarIs_n13
noncomputable def PlanarIs_n16 : Code := cR PlanarIs_n13
noncomputable def PlanarIs_n17 : Code := cL PlanarIs_n16
noncomputable def PlanarIs_n18 : Code := cR PlanarIs_n16
noncomputable def PlanarIs_n19 : Code := cL PlanarIs_n14
noncomputable def PlanarIs_n20 : Code := cR PlanarIs_n14
noncomputable def PlanarIs_n21 : Code := cL PlanarIs_n19
noncomputable def PlanarIs_n22 : Code := cL PlanarIs_n21
noncomputable def PlanarIs_n23 : Code := cR PlanarIs_n21
noncomputable def PlanarIs_n24 : Code := cL PlanarIs_n22
noncomputable def PlanarIs_n25 : Code := cR PlanarIs_n22
noncomputable def PlanarIs_n26 : Code := cL PlanarIs_n25
noncomputable def PlanarIs_n27 : Code := cR PlanarIs_n25
noncomputable def PlanarIs_n28 : Code := cL PlanarIs_n23
noncomputable def PlanarIs_n29 : Code := cR PlanarIs_n23
noncomputable def PlanarIs_n30 : Code := cL PlanarIs_n29
noncomputable def PlanarIs_n31 : Code := cR PlanarIs_n29
noncomputable def PlanarIs_n32 : Code := cL PlanarIs_n30
noncomputable def PlanarIs_n33 : Code := cR PlanarIs_n30
noncomputable def PlanarIs_n34 : Code := cL PlanarIs_n33
noncomputable def PlanarIs_n35 : Code := cL PlanarIs_n34
noncomputable def PlanarIs_n36 : Code := cL PlanarIs_n35
noncomputable def PlanarIs_n37 : Code := cR PlanarIs_n35
noncomputable def PlanarIs_n38 : Code := cL PlanarIs_n36
noncomputable def PlanarIs_n39 : Code := cR PlanarIs_n36
noncomputable def PlanarIs_n40 : Code := cL PlanarIs_n39
noncomputable def PlanarIs_n41 : Code := cR PlanarIs_n39
noncomputable def PlanarIs_n42 : Code := cL PlanarIs_n37
noncomputable def PlanarIs_n43 : Code := cR PlanarIs_n37
noncomputable def PlanarIs_n44 : Code := cL PlanarIs_n42
noncomputable def PlanarIs_n45 : Code := cL PlanarIs_n44
noncomputable def PlanarIs_n46 : Code := cR PlanarIs_n44
noncomputable def PlanarIs_n47 : Code := cL PlanarIs_n46
noncomputable def PlanarIs_n48 : Code := cR PlanarIs_n46
noncomputable def PlanarIs_n49 : Code := cL PlanarIs_n31
noncomputable def PlanarIs_n50 : Code := cR PlanarIs_n31
noncomputable def PlanarIs_n51 : Code := cL PlanarIs_n49
noncomputable def PlanarIs_n52 : Code := cR PlanarIs_n49
noncomputable def PlanarIs_n53 : Code := cL PlanarIs_n52
noncomputable def PlanarIs_n54 : Code := cL PlanarIs_n53
noncomputable def PlanarIs_n55 : Code := cL PlanarIs_n54
noncomputable def PlanarIs_n56 : Code := cR PlanarIs_n54
noncomputable def PlanarIs_n57 : Code := cL PlanarIs_n55
noncomputable def PlanarIs_n58 : Code := cR PlanarIs_n55
noncomputable def PlanarIs_n59 : Code := cL PlanarIs_n58
noncomputable def PlanarIs_n60 : Code := cR PlanarIs_n58
noncomputable def PlanarIs_n61 : Code := cL PlanarIs_n56
noncomputable def PlanarIs_n62 : Code := cR PlanarIs_n56
noncomputable def PlanarIs_n63 : Code := cL PlanarIs_n61
noncomputable def PlanarIs_n64 : Code := cL PlanarIs_n63
noncomputable def PlanarIs_n65 : Code := cR PlanarIs_n63
noncomputable def PlanarIs_n66 : Code := cL PlanarIs_n65
noncomputable def PlanarIs_n67 : Code := cR PlanarIs_n65
noncomputable def PlanarIs_n68 : Code := cL PlanarIs_n50
noncomputable def PlanarIs_n69 : Code := cR PlanarIs_n50
noncomputable def PlanarIs_n70 : Code := cL PlanarIs_n69
noncomputable def PlanarIs_n71 : Code := cR PlanarIs_n69
noncomputable def PlanarIs_n72 : Code := cL PlanarIs_n70
noncomputable def PlanarIs_n73 : Code := cR PlanarIs_n70
noncomputable def PlanarIs_n74 : Code := cL PlanarIs_n8
noncomputable def PlanarIs_n75 : Code := cR PlanarIs_n8
set_option maxHeartbeats 1000000 in
set_option maxRecDepth 10000 in
theorem PlanarIs_t {w : World} {M : Hp} {X : Fr} (d : Dg) {dcrsA : Option Addr} {dcrsc : Nat} (hdcrs : RdA cdCr (M.un X.h) dcrsA dcrsc d.crs) (hn : d.crs.length ≤ 16) (hab : arcsB d = true) (S : SH w M X []) : Ct Try.prog 37 [.agg [.slice dcrsA d.crs.length dcrsc, .int .i64 d.loops].toArray] w M X (fun u _ => u = .bool (planIs d)) := by
  unfold Ct
  have rmhdcrs : d.crs.length * 40 ≤ 140737488355328 := hdcrs.room
  refine calls_in (b := PlanarIs_n0) Try.func37 rfl Try.ntmps37 rfl (fun C hC => ?_)
  refine ws_sub [(0, _)] ⟨rfl, trivial⟩ ?_
  refine ws_seqN PlanarIs_n1 PlanarIs_n2 rfl rfl rfl ?_
  refine ws_region rfl ?_
  refine wl_op (k := 0) (k' := 1) rfl rfl rfl (wo_box (l := [_, _]) rfl rfl rfl rfl rfl S ?_)
  intro gb1 w1 S1; clear S
  refine wl_op (k := 1) (k' := 2) rfl rfl rfl (wo_run rfl rfl (run_assign rfl rfl) ?_)
  refine wl_end rfl ?_
  refine nm_sub [(1, _)] ⟨rfl, trivial⟩ ?_
  refine nm_thn ?_
  refine ws_seqN PlanarIs_n3 PlanarIs_n4 rfl rfl rfl ?_
  refine ws_region rfl ?_
  refine wl_op (k := 0) (k' := 1) rfl rfl rfl (wo_run rfl rfl (run_loadN (us := [_, _]) rfl rfl Try.underlying27 rfl sz27 (S1.boxcs (i := 0) rfl ⟨rfl, rfl, trivial⟩)) ?_)
  refine wl_op (k := 1) (k' := 2) rfl rfl rfl (wo_ct rfl rfl rfl rfl rfl rfl rfl cf70 S1 (PiecesOf_t d (hdcrs.mono S1.un_XH) (hn) (hab) S1.lend) ?_)
  intro vw2 w2 M1 hle1 S2 hRw2; clear S1
  replace hdcrs := hdcrs.mono (Hp.un_mono hle1 S2.mx)
  obtain ⟨A1, c1, rfl, hr1⟩ := hRw2
  refine wl_op (k := 2) (k' := 3) rfl rfl rfl (wo_run rfl rfl (run_assign rfl rfl) ?_)
  refine wl_end rfl ?_
  refine nm_sub [(1, _), (3, _)] ⟨rfl, rfl, trivial⟩ ?_
  refine nm_thn ?_
  refine ws_seqN PlanarIs_n5 PlanarIs_n6 rfl rfl rfl ?_
  refine ws_region rfl ?_
  refine wl_op (k := 0) (k' := 1) rfl rfl rfl (wo_run rfl rfl (run_loadN (us := [_, _]) rfl rfl Try.underlying27 rfl sz27 (S2.boxcs (i := 0) rfl ⟨rfl, rfl, trivial⟩)) ?_)
  refine wl_op (k := 1) (k' := 2) rfl rfl rfl (wo_ct rfl rfl rfl rfl rfl rfl rfl cf36 S2 (FacesOf_t d (hdcrs.mono S2.un_XH) (hn) (hab) S2.lend) ?_)
  intro vw3 w3 M2 hle2 S3 hRw3; clear S2
  replace hdcrs := hdcrs.mono (Hp.un_mono hle2 S3.mx)
  replace hr1 := hr1.mono hle2
  obtain ⟨A2, c2, vs1, rfl, hr2, hd1⟩ := hRw3
  have hfl := hd1.1
  refine wl_op (k := 2) (k' := 3) rfl rfl rfl (wo_run rfl rfl (run_assign rfl rfl) ?_)
  refine wl_end rfl ?_
  refine nm_sub [(1, _), (3, _), (4, _)] ⟨rfl, rfl, rfl, trivial⟩ ?_
  refine nm_thn ?_
  refine ws_seqN PlanarIs_n7 PlanarIs_n8 rfl rfl rfl ?_
  refine ws_seqN PlanarIs_n9 PlanarIs_n10 rfl rfl rfl ?_
  refine ws_region rfl ?_
  refine wl_op (k := 0) (k' := 1) rfl rfl rfl (wo_run rfl rfl (run_assign rfl rfl) ?_)
  refine wl_end rfl ?_
  refine nm_thn ?_
  refine ws_blockN PlanarIs_n11 0 rfl rfl rfl ?_
  refine ws_loopE (fun mx_ ax_ wx_ => ∃ (p : Nat), mx_ = d.crs.length - p ∧ Env 71 [(1, .pointer (some ⟨gb1, 0, none⟩)), (3, .slice A1 (whoL d).length c1), (4, .slice A2 vs1.length c2), (5, .int .i64 (p : Int))] ax_ ∧ SH wx_ M2 X [Rs.box gb1 27 [.slice dcrsA d.crs.length dcrsc, .int .i64 d.loops]] ∧ p ≤ d.crs.length ∧ (∀ q, q < p → rootOk d q = true)) rfl ?_ ?_
  · intro ax_ hax_
    refine ⟨_, ⟨0, rfl, hax_.sub ⟨rfl, rfl, rfl, rfl, trivial⟩, S3.pick [0] [_] (by decide) ⟨rfl, trivial⟩, ?hq1f0, ?hq1f1⟩⟩
    case hq1f0 => omega
    case hq1f1 => (intro q hq; omega)
  · rintro m1 a1 w4 ⟨p, rfl, he1, S4, hp, hall⟩
    clear S3
    refine ws_in he1 (c := PlanarIs_n12) rfl ?_
    clear he1 a1
    have hwl := rndsW_len d d.crs.length
    replace hwl : (whoL d).length = d.crs.length := hwl
    have hfm := facesL_many d
    refine ws_seqN PlanarIs_n13 PlanarIs_n14 rfl rfl rfl ?_
    refine ws_seqN PlanarIs_n15 PlanarIs_n16 rfl rfl rfl ?_
    refine ws_region rfl ?_
    refine wl_op (k := 0) (k' := 1) rfl rfl rfl (wo_run rfl rfl (run_move rfl rfl) ?_)
    refine wl_op (k := 1) (k' := 2) rfl rfl rfl (wo_run rfl rfl (run_move rfl rfl) ?_)
    refine wl_op (k := 2) (k' := 3) rfl rfl rfl (wo_run rfl rfl (run_len rfl rfl rfl rfl rfl rfl Try.underlying44) ?_)
    refine wl_op (k := 3) (k' := 4) rfl rfl rfl (wo_run rfl rfl (run_lss rfl rfl rfl) ?_)
    refine wl_end rfl ?_
    refine nm_sub [(1, _), (3, _), (4, _), (5, _), (16, _)] ⟨rfl, rfl, rfl, rfl, rfl, trivial⟩ ?_
    refine nm_thn ?_
    refine ws_condN PlanarIs_n17 PlanarIs_n18 rfl rfl rfl rfl (fun hb16 => ?_) (fun hb16 => ?_)
    · have hb16 := of_decide_eq_true hb16
      refine ws_skip rfl ?_
      refine nm_sub [(1, _), (3, _), (4, _), (5, _)] ⟨rfl, rfl, rfl, rfl, trivial⟩ ?_
      refine nm_thn ?_
      refine ws_seqN PlanarIs_n19 PlanarIs_n20 rfl rfl rfl ?_
      refine ws_blockN PlanarIs_n21 1 rfl rfl rfl ?_
      refine ws_seqN PlanarIs_n22 PlanarIs_n23 rfl rfl rfl ?_
      refine ws_seqN PlanarIs_n24 PlanarIs_n25 rfl rfl rfl ?_
      refine ws_region rfl ?_
      refine wl_op (k := 0) (k' := 1) rfl rfl rfl (wo_run rfl rfl (run_move rfl rfl) ?_)
      refine wl_op (k := 1) (k' := 2) rfl rfl rfl (wo_run rfl rfl (run_move rfl rfl) ?_)
      refine wl_op (k := 2) (k' := 3) rfl rfl rfl (wo_run rfl rfl (run_indexM (C := cdInt) p rfl rfl rfl sl44 (by first | rfl | omega) hr1 (by first | omega | (simp only [List.length_set, List.length_append, List.length_replicate, List.length_singleton, List.length_cons, List.length_nil]; omega))) ?_)
      refine wl_op (k := 3) (k' := 4) rfl rfl rfl (wo_run rfl rfl (run_load1 rfl rfl Try.underlying3 rfl (hr1.cell S4.m (i := p) (by first | omega | (simp only [List.length_set, List.length_append, List.length_replicate, List.length_singleton, List.length_cons, List.length_nil]; omega)) 0 rfl rfl)) ?_)
      refine wl_op (k := 4) (k' := 5) rfl rfl rfl (wo_run rfl rfl (run_move rfl rfl) ?_)
      refine wl_op (k := 5) (k' := 6) rfl rfl rfl (wo_run rfl rfl (run_neq rfl rfl rfl) ?_)
      refine wl_end rfl ?_
      refine nm_sub [(1, _), (3, _), (4, _), (5, _), (24, _)] ⟨rfl, rfl, rfl, rfl, rfl, trivial⟩ ?_
      refine nm_thn ?_
      refine ws_condN PlanarIs_n26 PlanarIs_n27 rfl rfl rfl rfl (fun hb24 => ?_) (fun hb24 => ?_)
      · have hb24 := of_decide_eq_true hb24
        refine ws_exit rfl rfl ?_
        refine nm_sub [(1, _), (3, _), (4, _), (5, _)] ⟨rfl, rfl, rfl, rfl, trivial⟩ ?_
        refine nm_thn ?_
        refine ws_region rfl ?_
        refine wl_op (k := 0) (k' := 1) rfl rfl rfl (wo_run rfl rfl (run_move rfl rfl) ?_)
        refine wl_op (k := 1) (k' := 2) rfl rfl rfl (wo_run rfl rfl (run_add rfl rfl rfl (by first | omega | (simp only [List.length_set, List.length_append, List.length_replicate, List.length_singleton, List.length_cons, List.length_nil]; omega))) ?_)
        refine wl_op (k := 2) (k' := 3) rfl rfl rfl (wo_run rfl rfl (run_assign rfl rfl) ?_)
        refine wl_end rfl ?_
        refine nm_lp ?_
        intro ax_ hax_
        refine ⟨_, ?hq2m, ⟨p + 1, rfl, hax_.sub ⟨rfl, rfl, rfl, rfl, trivial⟩, S4.pick [0] [_] (by decide) ⟨rfl, trivial⟩, ?hq2f0, ?hq2f1⟩⟩
        case hq2f0 => omega
        case hq2f1 => (intro q hq; by_cases h : q = p; (subst h; unfold rootOk; rw [Bool.or_eq_true]; first | (left; exact decide_eq_true (by omega)) | (right; exact decide_eq_true (by omega))); exact hall q (by omega))
        case hq2m => omega
      · have hb24 := of_decide_eq_false hb24
        refine ws_skip rfl ?_
        refine nm_sub [(1, _), (3, _), (4, _), (5, _)] ⟨rfl, rfl, rfl, rfl, trivial⟩ ?_
        refine nm_thn ?_
        refine ws_seqN PlanarIs_n28 PlanarIs_n29 rfl rfl rfl ?_
        refine ws_region rfl ?_
        refine wl_op (k := 0) (k' := 1) rfl rfl rfl (wo_run rfl rfl (run_assign rfl rfl) ?_)
        refine wl_end rfl ?_
        refine nm_thn ?_
        refine ws_seqN PlanarIs_n30 PlanarIs_n31 rfl rfl rfl ?_
        refine ws_seqN PlanarIs_n32 PlanarIs_n33 rfl rfl rfl ?_
        refine ws_region rfl ?_
        refine wl_op (k := 0) (k' := 1) rfl rfl rfl (wo_run rfl rfl (run_assign rfl rfl) ?_)
        refine wl_end rfl ?_
        refine nm_thn ?_
        refine ws_blockN PlanarIs_n34 2 rfl rfl rfl ?_
        refine ws_loopE (fun mx_ ax_ wx_ => ∃ (i : Nat) (m : Int), mx_ = d.crs.length - i ∧ Env 71 [(1, .pointer (some ⟨gb1, 0, none⟩)), (3, .slice A1 (whoL d).length c1), (4, .slice A2 vs1.length c2), (5, .int .i64 (p : Int)), (6, .int .i64 m), (7, .int .i64 (i : Int))] ax_ ∧ SH wx_ M2 X [Rs.box gb1 27 [.slice dcrsA d.crs.length dcrsc, .int .i64 d.loops]] ∧ i ≤ d.crs.length ∧ m = negW (whoL d) p i) rfl ?_ ?_
        · intro ax_ hax_
          refine ⟨_, ⟨0, _, rfl, hax_.sub ⟨rfl, rfl, rfl, rfl, rfl, rfl, trivial⟩, S4.pick [0] [_] (by decide) ⟨rfl, trivial⟩, ?hq3f0, ?hq3f1⟩⟩
          case hq3f0 => omega
          case hq3f1 => rfl
        · rintro m2 a2 w5 ⟨i, m, rfl, he2, S5, hi, hm⟩
          clear S4
          refine ws_in he2 (c := PlanarIs_n35) rfl ?_
          clear he2 a2
          have hnb := negW_bd (whoL d) p i
          refine ws_seqN PlanarIs_n36 PlanarIs_n37 rfl rfl rfl ?_
          refine ws_seqN PlanarIs_n38 PlanarIs_n39 rfl rfl rfl ?_
          refine ws_region rfl ?_
          refine wl_op (k := 0) (k' := 1) rfl rfl rfl (wo_run rfl rfl (run_move rfl rfl) ?_)
          refine wl_op (k := 1) (k' := 2) rfl rfl rfl (wo_run rfl rfl (run_move rfl rfl) ?_)
          refine wl_op (k := 2) (k' := 3) rfl rfl rfl (wo_run rfl rfl (run_len rfl rfl rfl rfl rfl rfl Try.underlying44) ?_)
          refine wl_op (k := 3) (k' := 4) rfl rfl rfl (wo_run rfl rfl (run_lss rfl rfl rfl) ?_)
          refine wl_end rfl ?_
          refine nm_sub [(1, _), (3, _), (4, _), (5, _), (6, _), (7, _), (28, _)] ⟨rfl, rfl, rfl, rfl, rfl, rfl, rfl, trivial⟩ ?_
          refine nm_thn ?_
          refine ws_condN PlanarIs_n40 PlanarIs_n41 rfl rfl rfl rfl (fun hb28 => ?_) (fun hb28 => ?_)
          · have hb28 := of_decide_eq_true hb28
            refine ws_skip rfl ?_
            refine nm_sub [(1, _), (3, _), (4, _), (5, _), (6, _), (7, _)] ⟨rfl, rfl, rfl, rfl, rfl, rfl, trivial⟩ ?_
            refine nm_thn ?_
            refine ws_seqN PlanarIs_n42 PlanarIs_n43 rfl rfl rfl ?_
            refine ws_blockN PlanarIs_n44 3 rfl rfl rfl ?_
            refine ws_seqN PlanarIs_n45 PlanarIs_n46 rfl rfl rfl ?_
            refine ws_region rfl ?_
            refine wl_op (k := 0) (k' := 1) rfl rfl rfl (wo_run rfl rfl (run_move rfl rfl) ?_)
            refine wl_op (k := 1) (k' := 2) rfl rfl rfl (wo_run rfl rfl (run_move rfl rfl) ?_)
            refine wl_op (k := 2) (k' := 3) rfl rfl rfl (wo_run rfl rfl (run_indexM (C := cdInt) i rfl rfl rfl sl44 (by first | rfl | omega) hr1 (by first | omega | (simp only [List.length_set, List.length_append, List.length_replicate, List.length_singleton, List.length_cons, List.length_nil]; omega))) ?_)
            refine wl_op (k := 3) (k' := 4) rfl rfl rfl (wo_run rfl rfl (run_load1 rfl rfl Try.underlying3 rfl (hr1.cell S5.m (i := i) (by first | omega | (simp only [List.length_set, List.length_append, List.length_replicate, List.length_singleton, List.length_cons, List.length_nil]; omega)) 0 rfl rfl)) ?_)
            refine wl_op (k := 4) (k' := 5) rfl rfl rfl (wo_run rfl rfl (run_move rfl rfl) ?_)
            refine wl_op (k := 5) (k' := 6) rfl rfl rfl (wo_run rfl rfl (run_eql rfl rfl rfl) ?_)
            refine wl_end rfl ?_
            refine nm_sub [(1, _), (3, _), (4, _), (5, _), (6, _), (7, _), (36, _)] ⟨rfl, rfl, rfl, rfl, rfl, rfl, rfl, trivial⟩ ?_
            refine nm_thn ?_
            refine ws_condN PlanarIs_n47 PlanarIs_n48 rfl rfl rfl rfl (fun hb36 => ?_) (fun hb36 => ?_)
            · have hb36 := of_decide_eq_true hb36
              refine ws_region rfl ?_
              refine wl_op (k := 0) (k' := 1) rfl rfl rfl (wo_run rfl rfl (run_move rfl rfl) ?_)
              refine wl_op (k := 1) (k' := 2) rfl rfl rfl (wo_run rfl rfl (run_sub rfl rfl rfl (by first | omega | (simp only [List.length_set, List.length_append, List.length_replicate, List.length_singleton, List.length_cons, List.length_nil]; omega))) ?_)
              refine wl_op (k := 2) (k' := 3) rfl rfl rfl (wo_run rfl rfl (run_assign rfl rfl) ?_)
              refine wl_end rfl ?_
              refine nm_blk ?_
              refine nm_sub [(1, _), (3, _), (4, _), (5, _), (6, _), (7, _)] ⟨rfl, rfl, rfl, rfl, rfl, rfl, trivial⟩ ?_
              refine nm_thn ?_
              refine ws_region rfl ?_
              refine wl_op (k := 0) (k' := 1) rfl rfl rfl (wo_run rfl rfl (run_move rfl rfl) ?_)
              refine wl_op (k := 1) (k' := 2) rfl rfl rfl (wo_run rfl rfl (run_add rfl rfl rfl (by first | omega | (simp only [List.length_set, List.length_append, List.length_replicate, List.length_singleton, List.length_cons, List.length_nil]; omega))) ?_)
              refine wl_op (k := 2) (k' := 3) rfl rfl rfl (wo_run rfl rfl (run_assign rfl rfl) ?_)
              refine wl_end rfl ?_
              refine nm_lp ?_
              intro ax_ hax_
              refine ⟨_, ?hq4m, ⟨i + 1, _, rfl, hax_.sub ⟨rfl, rfl, rfl, rfl, rfl, rfl, trivial⟩, S5.pick [0] [_] (by decide) ⟨rfl, trivial⟩, ?hq4f0, ?hq4f1⟩⟩
              case hq4f0 => omega
              case hq4f1 => (rw [negW, hm]; first | rw [if_pos (by omega)] | rw [if_neg (by omega)])
              case hq4m => omega
            · have hb36 := of_decide_eq_false hb36
              refine ws_skip rfl ?_
              refine nm_blk ?_
              refine nm_sub [(1, _), (3, _), (4, _), (5, _), (6, _), (7, _)] ⟨rfl, rfl, rfl, rfl, rfl, rfl, trivial⟩ ?_
              refine nm_thn ?_
              refine ws_region rfl ?_
              refine wl_op (k := 0) (k' := 1) rfl rfl rfl (wo_run rfl rfl (run_move rfl rfl) ?_)
              refine wl_op (k := 1) (k' := 2) rfl rfl rfl (wo_run rfl rfl (run_add rfl rfl rfl (by first | omega | (simp only [List.length_set, List.length_append, List.length_replicate, List.length_singleton, List.length_cons, List.length_nil]; omega))) ?_)
              refine wl_op (k := 2) (k' := 3) rfl rfl rfl (wo_run rfl rfl (run_assign rfl rfl) ?_)
              refine wl_end rfl ?_
              refine nm_lp ?_
              intro ax_ hax_
              refine ⟨_, ?hq5m, ⟨i + 1, _, rfl, hax_.sub ⟨rfl, rfl, rfl, rfl, rfl, rfl, trivial⟩, S5.pick [0] [_] (by decide) ⟨rfl, trivial⟩, ?hq5f0, ?hq5f1⟩⟩
              case hq5f0 => omega
              case hq5f1 => (rw [negW, hm]; first | rw [if_pos (by omega)] | rw [if_neg (by omega)])
              case hq5m => omega
          · have hb28 := of_decide_eq_false hb28
            refine ws_exit rfl rfl ?_
            refine nm_sub [(1, _), (3, _), (4, _), (5, _), (6, _)] ⟨rfl, rfl, rfl, rfl, rfl, trivial⟩ ?_
            refine nm_thn ?_
            refine ws_seqN PlanarIs_n49 PlanarIs_n50 rfl rfl rfl ?_
            refine ws_seqN PlanarIs_n51 PlanarIs_n52 rfl rfl rfl ?_
            refine ws_region rfl ?_
            refine wl_op (k := 0) (k' := 1) rfl rfl rfl (wo_run rfl rfl (run_assign rfl rfl) ?_)
            refine wl_end rfl ?_
            refine nm_thn ?_
            refine ws_blockN PlanarIs_n53 4 rfl rfl rfl ?_
            refine ws_loopE (fun mx_ ax_ wx_ => ∃ (k : Nat) (m2 : Int), mx_ = (facesL d).length - k ∧ Env 71 [(1, .pointer (some ⟨gb1, 0, none⟩)), (3, .slice A1 (whoL d).length c1), (4, .slice A2 vs1.length c2), (5, .int .i64 (p : Int)), (6, .int .i64 m2), (8, .int .i64 (k : Int))] ax_ ∧ SH wx_ M2 X [Rs.box gb1 27 [.slice dcrsA d.crs.length dcrsc, .int .i64 d.loops]] ∧ k ≤ (facesL d).length ∧ m2 = facW d (whoL d) p (negW (whoL d) p d.crs.length) k) rfl ?_ ?_
            · intro ax_ hax_
              refine ⟨_, ⟨0, _, rfl, hax_.sub ⟨rfl, rfl, rfl, rfl, rfl, rfl, trivial⟩, S5.pick [0] [_] (by decide) ⟨rfl, trivial⟩, ?hq6f0, ?hq6f1⟩⟩
              case hq6f0 => omega
              case hq6f1 => (rw [hm, show i = d.crs.length by omega]; rfl)
            · rintro m3 a3 w6 ⟨k, m2, rfl, he3, S6, hk, hm2⟩
              clear S5
              refine ws_in he3 (c := PlanarIs_n54) rfl ?_
              clear he3 a3
              have hnb := negW_bd (whoL d) p d.crs.length
              have hfb := facW_bd d (whoL d) p (negW (whoL d) p d.crs.length) k
              refine ws_seqN PlanarIs_n55 PlanarIs_n56 rfl rfl rfl ?_
              refine ws_seqN PlanarIs_n57 PlanarIs_n58 rfl rfl rfl ?_
              refine ws_region rfl ?_
              refine wl_op (k := 0) (k' := 1) rfl rfl rfl (wo_run rfl rfl (run_move rfl rfl) ?_)
              refine wl_op (k := 1) (k' := 2) rfl rfl rfl (wo_run rfl rfl (run_move rfl rfl) ?_)
              refine wl_op (k := 2) (k' := 3) rfl rfl rfl (wo_run rfl rfl (run_len rfl rfl rfl rfl rfl rfl Try.underlying54) ?_)
              refine wl_op (k := 3) (k' := 4) rfl rfl rfl (wo_run rfl rfl (run_lss rfl rfl rfl) ?_)
              refine wl_end rfl ?_
              refine nm_sub [(1, _), (3, _), (4, _), (5, _), (6, _), (8, _), (42, _)] ⟨rfl, rfl, rfl, rfl, rfl, rfl, rfl, trivial⟩ ?_
              refine nm_thn ?_
              refine ws_condN PlanarIs_n59 PlanarIs_n60 rfl rfl rfl rfl (fun hb42 => ?_) (fun hb42 => ?_)
              · have hb42 := of_decide_eq_true hb42
                have hhd := hd0_ok (d := d) (k := k) (by omega)
                have hfc := fcC_lt hab (k := k) (by omega)
                obtain ⟨hh0, hok⟩ := hhd
                have hfe : fcC d k = (endOf d (ga (ga (facesL d) k) 0).a (ga (ga (facesL d) k) 0).b).1 := rfl
                rw [hfe] at hfc
                refine ws_skip rfl ?_
                refine nm_sub [(1, _), (3, _), (4, _), (5, _), (6, _), (8, _)] ⟨rfl, rfl, rfl, rfl, rfl, rfl, trivial⟩ ?_
                refine nm_thn ?_
                refine ws_seqN PlanarIs_n61 PlanarIs_n62 rfl rfl rfl ?_
                refine ws_blockN PlanarIs_n63 5 rfl rfl rfl ?_
                refine ws_seqN PlanarIs_n64 PlanarIs_n65 rfl rfl rfl ?_
                refine ws_draw rfl (by kernel_rfl) S6 22 rfl ?_
                clear S6
                refine wa_takeP (i := 0) (d := 45) 21 rfl (by kernel_rfl) (by kernel_rfl) (by kernel_rfl) rfl rfl rfl (fun w7 => run_move rfl rfl) ?_
                refine wa_take (i := 1) (d := 46) 20 rfl (by kernel_rfl) (by kernel_rfl) (by kernel_rfl) rfl rfl rfl (fun M4 N2 w8 hle7 S8 => .inl (run_loadN (us := [_, _]) rfl rfl Try.underlying27 rfl sz27 (S8.suf.boxcs (i := 0) rfl ⟨rfl, rfl, trivial⟩))) ?_
                refine wa_takeP (i := 2) (d := 47) 19 rfl (by kernel_rfl) (by kernel_rfl) (by kernel_rfl) rfl rfl rfl (fun w9 => run_move rfl rfl) ?_
                refine wa_takeP (i := 3) (d := 48) 18 rfl (by kernel_rfl) (by kernel_rfl) (by kernel_rfl) rfl rfl rfl (fun w10 => run_move rfl rfl) ?_
                refine wa_take (i := 4) (d := 49) 17 rfl (by kernel_rfl) (by kernel_rfl) (by kernel_rfl) rfl rfl rfl (fun M7 N5 w11 hle10 S11 => .inl (run_indexM (C := (cdV 100)) k rfl rfl rfl sl54 (by first | rfl | omega) (hr2.mono hle10) (by first | omega | (simp only [List.length_set, List.length_append, List.length_replicate, List.length_singleton, List.length_cons, List.length_nil]; omega)))) ?_
                obtain ⟨hn1, hr3⟩ := hd1.2 k (by first | omega | (simp only [List.length_set, List.length_append, List.length_replicate, List.length_singleton, List.length_cons, List.length_nil]; omega))
                have rmhr3 : (ga (facesL d) k).length * 16 ≤ 140737488355328 := hr3.room
                refine wa_take (i := 5) (d := 50) 16 rfl (by kernel_rfl) (by kernel_rfl) (by kernel_rfl) rfl rfl rfl (fun M8 N6 w12 hle11 S12 => .inl (run_load1 rfl rfl Try.underlying100 rfl ((hr2.mono hle11).cell S12.m (i := k) (by first | omega | (simp only [List.length_set, List.length_append, List.length_replicate, List.length_singleton, List.length_cons, List.length_nil]; omega)) 0 rfl (congrArg (fun n => some (Value.slice _ n _)) hn1)))) ?_
                refine wa_take (i := 6) (d := 51) 15 rfl (by kernel_rfl) (by kernel_rfl) (by kernel_rfl) rfl rfl rfl (fun M9 N7 w13 hle12 S13 => .inl (run_indexM (C := cdDa) 0 rfl rfl rfl sl100 (by first | rfl | omega) (hr3.mono hle12) (by first | omega | (simp only [List.length_set, List.length_append, List.length_replicate, List.length_singleton, List.length_cons, List.length_nil]; omega)))) ?_
                refine wa_takeP (i := 7) (d := 52) 14 rfl (by kernel_rfl) (by kernel_rfl) (by kernel_rfl) rfl rfl rfl (fun w14 => run_fieldAddr rfl rfl Try.underlying102 rfl (ce3) (nf3)) ?_
                refine wa_take (i := 8) (d := 53) 13 rfl (by kernel_rfl) (by kernel_rfl) (by kernel_rfl) rfl rfl rfl (fun M11 N9 w15 hle14 S15 => .inl (run_load1 rfl rfl Try.underlying3 rfl ((hr3.mono hle14).cell S15.m (i := 0) (by first | omega | (simp only [List.length_set, List.length_append, List.length_replicate, List.length_singleton, List.length_cons, List.length_nil]; omega)) 0 rfl rfl))) ?_
                refine wa_takeP (i := 9) (d := 54) 12 rfl (by kernel_rfl) (by kernel_rfl) (by kernel_rfl) rfl rfl rfl (fun w16 => run_move rfl rfl) ?_
                refine wa_takeP (i := 10) (d := 55) 11 rfl (by kernel_rfl) (by kernel_rfl) (by kernel_rfl) rfl rfl rfl (fun w17 => run_move rfl rfl) ?_
                refine wa_take (i := 11) (d := 56) 10 rfl (by kernel_rfl) (by kernel_rfl) (by kernel_rfl) rfl rfl rfl (fun M14 N12 w18 hle17 S18 => .inl (run_indexM (C := (cdV 100)) k rfl rfl rfl sl54 (by first | rfl | omega) (hr2.mono hle17) (by first | omega | (simp only [List.length_set, List.length_append, List.length_replicate, List.length_singleton, List.length_cons, List.length_nil]; omega)))) ?_
                obtain ⟨hn2, hr4⟩ := hd1.2 k (by first | omega | (simp only [List.length_set, List.length_append, List.length_replicate, List.length_singleton, List.length_cons, List.length_nil]; omega))
                have rmhr4 : (ga (facesL d) k).length * 16 ≤ 140737488355328 := hr4.room
                refine wa_take (i := 12) (d := 57) 9 rfl (by kernel_rfl) (by kernel_rfl) (by kernel_rfl) rfl rfl rfl (fun M15 N13 w19 hle18 S19 => .inl (run_load1 rfl rfl Try.underlying100 rfl ((hr2.mono hle18).cell S19.m (i := k) (by first | omega | (simp only [List.length_set, List.length_append, List.length_replicate, List.length_singleton, List.length_cons, List.length_nil]; omega)) 0 rfl (congrArg (fun n => some (Value.slice _ n _)) hn2)))) ?_
                refine wa_take (i := 13) (d := 58) 8 rfl (by kernel_rfl) (by kernel_rfl) (by kernel_rfl) rfl rfl rfl (fun M16 N14 w20 hle19 S20 => .inl (run_indexM (C := cdDa) 0 rfl rfl rfl sl100 (by first | rfl | omega) (hr4.mono hle19) (by first | omega | (simp only [List.length_set, List.length_append, List.length_replicate, List.length_singleton, List.length_cons, List.length_nil]; omega)))) ?_
                refine wa_takeP (i := 14) (d := 59) 7 rfl (by kernel_rfl) (by kernel_rfl) (by kernel_rfl) rfl rfl rfl (fun w21 => run_fieldAddr rfl rfl Try.underlying102 rfl (ce4) (nf4)) ?_
                refine wa_take (i := 15) (d := 60) 6 rfl (by kernel_rfl) (by kernel_rfl) (by kernel_rfl) rfl rfl rfl (fun M18 N16 w22 hle21 S22 => .inl (run_load1 rfl rfl Try.underlying4 rfl ((hr4.mono hle21).cell S22.m (i := 0) (by first | omega | (simp only [List.length_set, List.length_append, List.length_replicate, List.length_singleton, List.length_cons, List.length_nil]; omega)) 1 rfl rfl))) ?_
                refine wa_take (i := 16) (d := 61) 5 rfl (by kernel_rfl) (by kernel_rfl) (by kernel_rfl) rfl rfl rfl (fun M19 N17 w23 hle22 S23 => yield_cq rfl rfl rfl rfl rfl cf61 S23 (EndOf_q d ((ga (ga (facesL d) k) 0).a) ((ga (ga (facesL d) k) 0).b) ((hdcrs.mono (Hp.un_mono hle22 S23.mx)).mono S23.un_XH) S23.lend)) ?_
                refine wa_takeP (i := 17) (d := 62) 4 rfl (by kernel_rfl) (by kernel_rfl) (by kernel_rfl) rfl rfl rfl (fun w24 => run_field0 rfl rfl Try.underlying88 rfl Try.underlying3 rfl rfl) ?_
                refine wa_take (i := 18) (d := 63) 3 rfl (by kernel_rfl) (by kernel_rfl) (by kernel_rfl) rfl rfl rfl (fun M21 N19 w25 hle24 S25 => .inl (run_indexM (C := cdInt) ((endOf d ((ga (ga (facesL d) k) 0).a) ((ga (ga (facesL d) k) 0).b)).1) rfl rfl rfl sl44 (by first | rfl | omega) (hr1.mono hle24) (by first | omega | (simp only [List.length_set, List.length_append, List.length_replicate, List.length_singleton, List.length_cons, List.length_nil]; omega)))) ?_
                refine wa_take (i := 19) (d := 64) 2 rfl (by kernel_rfl) (by kernel_rfl) (by kernel_rfl) rfl rfl rfl (fun M22 N20 w26 hle25 S26 => .inl (run_load1 rfl rfl Try.underlying3 rfl ((hr1.mono hle25).cell S26.m (i := (endOf d ((ga (ga (facesL d) k) 0).a) ((ga (ga (facesL d) k) 0).b)).1) (by first | omega | (simp only [List.length_set, List.length_append, List.length_replicate, List.length_singleton, List.length_cons, List.length_nil]; omega)) 0 rfl rfl))) ?_
                refine wa_takeP (i := 20) (d := 65) 1 rfl (by kernel_rfl) (by kernel_rfl) (by kernel_rfl) rfl rfl rfl (fun w27 => run_move rfl rfl) ?_
                refine wa_takeP (i := 21) (d := 66) 0 rfl (by kernel_rfl) (by kernel_rfl) (by kernel_rfl) rfl rfl rfl (fun w28 => run_eql rfl rfl rfl) ?_
                refine wa_end (by kernel_rfl) (fun w29 S29 => ?_)
                refine nm_sub [(1, _), (3, _), (4, _), (5, _), (6, _), (8, _), (66, _)] ⟨rfl, rfl, rfl, rfl, rfl, rfl, rfl, trivial⟩ ?_
                refine nm_thn ?_
                refine ws_condN PlanarIs_n66 PlanarIs_n67 rfl rfl rfl rfl (fun hb66 => ?_) (fun hb66 => ?_)
                · have hb66 := of_decide_eq_true hb66
                  refine ws_region rfl ?_
                  refine wl_op (k := 0) (k' := 1) rfl rfl rfl (wo_run rfl rfl (run_move rfl rfl) ?_)
                  refine wl_op (k := 1) (k' := 2) rfl rfl rfl (wo_run rfl rfl (run_add rfl rfl rfl (by first | omega | (simp only [List.length_set, List.length_append, List.length_replicate, List.length_singleton, List.length_cons, List.length_nil]; omega))) ?_)
                  refine wl_op (k := 2) (k' := 3) rfl rfl rfl (wo_run rfl rfl (run_assign rfl rfl) ?_)
                  refine wl_end rfl ?_
                  refine nm_blk ?_
                  refine nm_sub [(1, _), (3, _), (4, _), (5, _), (6, _), (8, _)] ⟨rfl, rfl, rfl, rfl, rfl, rfl, trivial⟩ ?_
                  refine nm_thn ?_
                  refine ws_region rfl ?_
                  refine wl_op (k := 0) (k' := 1) rfl rfl rfl (wo_run rfl rfl (run_move rfl rfl) ?_)
                  refine wl_op (k := 1) (k' := 2) rfl rfl rfl (wo_run rfl rfl (run_add rfl rfl rfl (by first | omega | (simp only [List.length_set, List.length_append, List.length_replicate, List.length_singleton, List.length_cons, List.length_nil]; omega))) ?_)
                  refine wl_op (k := 2) (k' := 3) rfl rfl rfl (wo_run rfl rfl (run_assign rfl rfl) ?_)
                  refine wl_end rfl ?_
                  refine nm_lp ?_
                  intro ax_ hax_
                  refine ⟨_, ?hq7m, ⟨k + 1, _, rfl, hax_.sub ⟨rfl, rfl, rfl, rfl, rfl, rfl, trivial⟩, S29.pick [0] [_] (by decide) ⟨rfl, trivial⟩, ?hq7f0, ?hq7f1⟩⟩
                  case hq7f0 => omega
                  case hq7f1 => (rw [facW, hm2, hfe]; first | rw [if_pos (by omega)] | rw [if_neg (by omega)])
                  case hq7m => omega
                · have hb66 := of_decide_eq_false hb66
                  refine ws_skip rfl ?_
                  refine nm_blk ?_
                  refine nm_sub [(1, _), (3, _), (4, _), (5, _), (6, _), (8, _)] ⟨rfl, rfl, rfl, rfl, rfl, rfl, trivial⟩ ?_
                  refine nm_thn ?_
                  refine ws_region rfl ?_
                  refine wl_op (k := 0) (k' := 1) rfl rfl rfl (wo_run rfl rfl (run_move rfl rfl) ?_)
                  refine wl_op (k := 1) (k' := 2) rfl rfl rfl (wo_run rfl rfl (run_add rfl rfl rfl (by first | omega | (simp only [List.length_set, List.length_append, List.length_replicate, List.length_singleton, List.length_cons, List.length_nil]; omega))) ?_)
                  refine wl_op (k := 2) (k' := 3) rfl rfl rfl (wo_run rfl rfl (run_assign rfl rfl) ?_)
                  refine wl_end rfl ?_
                  refine nm_lp ?_
                  intro ax_ hax_
                  refine ⟨_, ?hq8m, ⟨k + 1, _, rfl, hax_.sub ⟨rfl, rfl, rfl, rfl, rfl, rfl, trivial⟩, S29.pick [0] [_] (by decide) ⟨rfl, trivial⟩, ?hq8f0, ?hq8f1⟩⟩
                  case hq8f0 => omega
                  case hq8f1 => (rw [facW, hm2, hfe]; first | rw [if_pos (by omega)] | rw [if_neg (by omega)])
                  case hq8m => omega
              · have hb42 := of_decide_eq_false hb42
                have hm3 : m2 = facW d (whoL d) p (negW (whoL d) p d.crs.length) (facesL d).length := by rw [hm2, show k = (facesL d).length by omega]
                refine ws_exit rfl rfl ?_
                refine nm_sub [(1, _), (3, _), (4, _), (5, _), (6, _)] ⟨rfl, rfl, rfl, rfl, rfl, trivial⟩ ?_
                refine nm_thn ?_
                refine ws_seqN PlanarIs_n68 PlanarIs_n69 rfl rfl rfl ?_
                refine ws_region rfl ?_
                refine wl_op (k := 0) (k' := 1) rfl rfl rfl (wo_run rfl rfl (run_move rfl rfl) ?_)
                refine wl_op (k := 1) (k' := 2) rfl rfl rfl (wo_run rfl rfl (run_neq rfl rfl rfl) ?_)
                refine wl_end rfl ?_
                refine nm_sub [(1, _), (3, _), (4, _), (5, _), (70, _)] ⟨rfl, rfl, rfl, rfl, rfl, trivial⟩ ?_
                refine nm_thn ?_
                refine ws_condN PlanarIs_n70 PlanarIs_n71 rfl rfl rfl rfl (fun hb70 => ?_) (fun hb70 => ?_)
                · have hb70 := of_decide_eq_true hb70
                  refine ws_seqN PlanarIs_n72 PlanarIs_n73 rfl rfl rfl ?_
                  refine ws_region rfl ?_
                  refine wl_op (k := 0) (k' := 1) rfl rfl rfl (wo_run rfl rfl (run_assign rfl rfl) ?_)
                  refine wl_end rfl ?_
                  refine nm_sub [(2, _)] ⟨rfl, trivial⟩ ?_
                  refine nm_thn ?_
                  refine ws_ret hC [_] rfl rfl ⟨rfl, trivial⟩ ?_
                  refine ⟨_, rfl, _, hle1.trans hle2, (S6.pick [] [] (by decide) trivial), ?_⟩
                  refine congrArg Value.bool (planIs_f (p := p) (by omega) ?_).symm
                  unfold rootOk
                  rw [Bool.or_eq_false_iff]
                  exact ⟨decide_eq_false (by omega), decide_eq_false (by omega)⟩
                · have hb70 := of_decide_eq_false hb70
                  refine ws_skip rfl ?_
                  refine nm_blk ?_
                  refine nm_sub [(1, _), (3, _), (4, _), (5, _)] ⟨rfl, rfl, rfl, rfl, trivial⟩ ?_
                  refine nm_thn ?_
                  refine ws_region rfl ?_
                  refine wl_op (k := 0) (k' := 1) rfl rfl rfl (wo_run rfl rfl (run_move rfl rfl) ?_)
                  refine wl_op (k := 1) (k' := 2) rfl rfl rfl (wo_run rfl rfl (run_add rfl rfl rfl (by first | omega | (simp only [List.length_set, List.length_append, List.length_replicate, List.length_singleton, List.length_cons, List.length_nil]; omega))) ?_)
                  refine wl_op (k := 2) (k' := 3) rfl rfl rfl (wo_run rfl rfl (run_assign rfl rfl) ?_)
                  refine wl_end rfl ?_
                  refine nm_lp ?_
                  intro ax_ hax_
                  refine ⟨_, ?hq9m, ⟨p + 1, rfl, hax_.sub ⟨rfl, rfl, rfl, rfl, trivial⟩, S6.pick [0] [_] (by decide) ⟨rfl, trivial⟩, ?hq9f0, ?hq9f1⟩⟩
                  case hq9f0 => omega
                  case hq9f1 => (intro q hq; by_cases h : q = p; (subst h; unfold rootOk; rw [Bool.or_eq_true]; first | (left; exact decide_eq_true (by omega)) | (right; exact decide_eq_true (by omega))); exact hall q (by omega))
                  case hq9m => omega
    · have hb16 := of_decide_eq_false hb16
      refine ws_exit rfl rfl ?_
      refine nm_sub [] trivial ?_
      refine nm_thn ?_
      refine ws_seqN PlanarIs_n74 PlanarIs_n75 rfl rfl rfl ?_
      refine ws_region rfl ?_
      refine wl_op (k := 0) (k' := 1) rfl rfl rfl (wo_run rfl rfl (run_assign rfl rfl) ?_)
      refine wl_end rfl ?_
      refine nm_thn ?_
      refine ws_ret hC [_] rfl rfl ⟨rfl, trivial⟩ ?_
      refine ⟨_, rfl, _, hle1.trans hle2, (S4.pick [] [] (by decide) trivial), ?_⟩
      exact congrArg Value.bool (planIs_t (fun q hq => hall q (by omega))).symm

end Go.Proofs.Ytlbpgnimpcflaaa
