/- Walks printed by eng.py. -/
import Derived.Test.YtlbpgnimpcflaaaF3
import Derived.Test.YtlbpgnimpcflaaaRng0
set_option linter.unusedSimpArgs false
set_option linter.unusedVariables false
namespace Go.Proofs.Ytlbpgnimpcflaaa
open Go.ChangeShapes Go.WideShapes Go.ChangeAt Go.RowKit
def dcN (x : Da) : Nat := (2 * x.a + (if x.b = true then 1 else 0)).toNat
theorem dA_dcN {x : Da} (h : 0 ≤ x.a) : dA (dcN x) = x := by
  obtain ⟨a, b⟩ := x
  simp only at h
  unfold dA dcN
  cases b
  · simp only [Bool.false_eq_true, if_false, Int.add_zero]
    congr 1
    · omega
    · rw [decide_eq_false_iff_not]; omega
  · simp only [if_true]
    congr 1
    · omega
    · rw [decide_eq_true_iff]; omega
theorem dcN_dA (c : Nat) : dcN (dA c) = c := by
  unfold dcN dA
  by_cases h : c % 2 = 1
  · simp only [h, decide_true, if_true]; omega
  · simp only [h, decide_false, Bool.false_eq_true, if_false]; omega
theorem dA_inj {c e : Nat} (h : dA c = dA e) : c = e := by rw [← dcN_dA c, h, dcN_dA]
theorem dA_ok {d : Dg} {c : Nat} (h : 2 ≤ c ∧ c < 4 * d.crs.length + 2) : okD d (dA c) := by
  show 1 ≤ ((c / 2 : Nat) : Int) ∧ ((c / 2 : Nat) : Int) ≤ 2 * (d.crs.length : Int)
  omega
def nxC (d : Dg) (c : Nat) : Nat := dcN (leftD d (dA c))
theorem dcN_rng {d : Dg} {x : Da} (h : okD d x) : 2 ≤ dcN x ∧ dcN x < 4 * d.crs.length + 2 := by
  unfold okD at h
  unfold dcN
  split <;> omega
theorem nxC_rng {d : Dg} (hab : arcsB d = true) {c : Nat} (h : 2 ≤ c ∧ c < 4 * d.crs.length + 2) : 2 ≤ nxC d c ∧ nxC d c < 4 * d.crs.length + 2 := dcN_rng (leftD_ok hab (dA_ok h))
theorem dA_nxC {d : Dg} (hab : arcsB d = true) {c : Nat} (h : 2 ≤ c ∧ c < 4 * d.crs.length + 2) : dA (nxC d c) = leftD d (dA c) := dA_dcN (by have := leftD_ok hab (dA_ok h); unfold okD at this; omega)
/-- The faces: the first k darts looked at. -/
def facesN (d : Dg) : Nat → List Bool × List (List Int)
  | 0 => (List.replicate (4 * d.crs.length + 2) false, [])
  | k + 1 =>
    let s := facesN d k
    if ga s.1 (k + 2) = true then s else ((ringF (nxC d) s.1 (k + 2) []).1, s.2 ++ [(ringF (nxC d) s.1 (k + 2) []).2])
theorem facesN_skip {d : Dg} {k : Nat} {s : List Bool × List (List Int)} (h : facesN d k = s) (hg : ga s.1 (k + 2) = true) : facesN d (k + 1) = s := by
  subst h
  show (if _ then _ else _) = _
  rw [if_pos hg]
theorem facesN_ring {d : Dg} {k : Nat} {s : List Bool × List (List Int)} {r : List Bool × List Int} (h : facesN d k = s) (hg : ga s.1 (k + 2) = false) (hr : ringF (nxC d) s.1 (k + 2) [] = r) : facesN d (k + 1) = (r.1, s.2 ++ [r.2]) := by
  subst h; subst hr
  show (if _ then _ else _) = _
  rw [if_neg (by rw [hg]; exact Bool.false_ne_true)]
theorem facesN_len (d : Dg) (k : Nat) : (facesN d k).1.length = 4 * d.crs.length + 2 := by
  induction k with
  | zero => simp [facesN]
  | succ k ih =>
    cases hg : ga (facesN d k).1 (k + 2) with
    | true => rw [facesN_skip rfl hg]; exact ih
    | false => rw [facesN_ring rfl hg rfl, ringF_len]; exact ih
theorem facesN_many (d : Dg) (k : Nat) : (facesN d k).2.length ≤ k := by
  induction k with
  | zero => simp [facesN]
  | succ k ih =>
    cases hg : ga (facesN d k).1 (k + 2) with
    | true => rw [facesN_skip rfl hg]; omega
    | false => rw [facesN_ring rfl hg rfl]; simp; omega
def dasL (r : List Int) : List Da := r.map fun c => dA c.toNat
theorem dasL_snoc (r : List Int) (c : Nat) : dasL (r ++ [(c : Int)]) = dasL r ++ [dA c] := by unfold dasL; rw [List.map_append]; rfl
def facesD (d : Dg) (k : Nat) : List (List Da) := (facesN d k).2.map dasL
def facesL (d : Dg) : List (List Da) := facesD d (4 * d.crs.length)
/-- The map tells what the marks tell. -/
def SeenM (d : Dg) (es : List (Da × Bool)) (seen : List Bool) : Prop := ∀ c, 2 ≤ c → c < 4 * d.crs.length + 2 → (mg (dA c) es).getD false = ga seen c
theorem SeenM.nil_ (d : Dg) : SeenM d [] (List.replicate (4 * d.crs.length + 2) false) := fun c _ hc => by rw [ga_rep _ _ _ hc]; rfl
theorem SeenM.put {d : Dg} {es : List (Da × Bool)} {seen : List Bool} (h : SeenM d es seen) {c : Nat} (hc : c < seen.length) : SeenM d (mp (dA c) true es) (seen.set c true) := fun e h1 h2 => by
  rw [mg_mp, ga_set _ _ _ _ hc]
  by_cases he : c = e
  · subst he; rw [if_pos rfl, if_pos rfl]; rfl
  · rw [if_neg (fun e' => he (dA_inj e').symm), if_neg he]; exact h e h1 h2
def rfA : Code → Code
  | .rangeFunc _ _ a _ => a
  | c => c
def rfB : Code → Code
  | .rangeFunc _ _ _ b => b
  | c => c
/-- What holds between two rounds of Faces. -/
def FacesI (d : Dg) (gsh g1 g3 g4 gm k : Nat) (M : Hp) (H : List Rs) : Prop := ∃ es vs outv seen outc,
  H = [Rs.mp (fun x => Value.agg (cdDa.f x).toArray) Value.bool gm es, Rs.box g4 54 [outv], Rs.row (cdV 100) outv vs, Rs.box g3 119 [.map (some gm)], Rs.box g1 75 [.pointer (some ⟨gsh, 0, none⟩)]] ∧ Rd2 cdDa M vs (outc.map dasL) ∧ facesN d k = (seen, outc) ∧ SeenM d es seen
def FacesI1 (d : Dg) (gsh g1 g3 g4 gm k : Nat) (a : Act) (M : Hp) (H : List Rs) : Prop := ∃ g5 H', Env 35 [(1, .pointer (some ⟨g1, 0, none⟩)), (3, .pointer (some ⟨g3, 0, none⟩)), (4, .pointer (some ⟨g4, 0, none⟩)), (5, .pointer (some ⟨g5, 0, none⟩))] a ∧ H = Rs.box g5 102 [.int .i64 (dartN k).a, .bool (dartN k).b] :: H' ∧ FacesI d gsh g1 g3 g4 gm k M H'

noncomputable def Faces_rf : Code := cL (cR (cL (cR (cR (cR (Try.f66.body.getD .skip))))))
namespace InF

noncomputable def FacesA_n0 : Code := Try.f66.body.getD .skip
set_option maxRecDepth 10000 in
theorem Faces_assign {w : World} {M : Hp} {X : Fr} {d : Dg} {gsh gq1 gq3 gq4 gm k : Nat} {C : Ctx} {R0 : Rs} {H : List Rs} {L : List (Nat × Value)} (hL : Sub L [(1, .pointer (some ⟨gq1, 0, none⟩)), (3, .pointer (some ⟨gq3, 0, none⟩)), (4, .pointer (some ⟨gq4, 0, none⟩)), (11, encD k)]) (S : SH w M X (R0 :: H)) (hI : FacesI d gsh gq1 gq3 gq4 gm k M H) :
    WS Try.prog 35 C (rfA Faces_rf) [.lp (fun a w2 => ∃ M2 H2, M.le M2 ∧ SH w2 M2 X (R0 :: H2) ∧ FacesI1 d gsh gq1 gq3 gq4 gm k a M2 H2)] L w := by
  obtain ⟨es, vs, vrout, seen, outc, rfl, hdo, hfn, hse⟩ := hI
  change SH w M X [R0, Rs.mp (fun x => Value.agg (cdDa.f x).toArray) Value.bool gm es, _, Rs.row (cdV 100) vrout vs, _, _] at S
  refine ws_sub _ hL ?_
  refine ws_region rfl ?_
  refine wl_op (k := 0) (k' := 1) rfl rfl rfl (wo_alloc (l := [_, _]) rfl rfl rfl zr102 rfl S ?_)
  intro gb1 w1 S1; clear S
  refine wl_op (k := 1) (k' := 2) rfl rfl rfl (wo_storeB (i := 0) (us := [_, _]) (l' := [_, _]) (H' := [_, _, _, _, _, _, _]) rfl rfl S1 rfl rfl rfl rfl sz102 rfl rfl rfl rfl ?_)
  intro w2 S2; clear S1
  refine wl_end rfl ?_
  refine nm_lp ?_
  intro ax_ hax_
  exact ⟨M, _, Hp.le_refl _, S2.pick [1, 0, 2, 3, 4, 5, 6] [_, _, _, _, _, _, _] (by decide) ⟨rfl, rfl, rfl, rfl, rfl, rfl, rfl, trivial⟩, _, _, hax_.sub ⟨rfl, rfl, rfl, rfl, trivial⟩, rfl, es, vs, vrout, seen, outc, rfl, hdo, hfn, hse⟩

noncomputable def FacesB_n0 : Code := Try.f66.body.getD .skip
noncomputable def FacesB_n1 : Code := rfB Faces_rf
noncomputable def FacesB_n2 : Code := cL FacesB_n1
noncomputable def FacesB_n3 : Code := cL FacesB_n2
noncomputable def FacesB_n4 : Code := cR FacesB_n2
noncomputable def FacesB_n5 : Code := cL FacesB_n3
noncomputable def FacesB_n6 : Code := cR FacesB_n3
noncomputable def FacesB_n7 : Code := cL FacesB_n6
noncomputable def FacesB_n8 : Code := cR FacesB_n6
noncomputable def FacesB_n9 : Code := cL FacesB_n4
noncomputable def FacesB_n10 : Code := cR FacesB_n4
noncomputable def FacesB_n11 : Code := cL FacesB_n10
noncomputable def FacesB_n12 : Code := cR FacesB_n10
noncomputable def FacesB_n13 : Code := cL FacesB_n11
noncomputable def FacesB_n14 : Code := cR FacesB_n11
noncomputable def FacesB_n15 : Code := cL FacesB_n14
noncomputable def FacesB_n16 : Code := cL FacesB_n15
noncomputable def FacesB_n17 : Code := cL FacesB_n16
noncomputable def FacesB_n18 : Code := cR FacesB_n16
noncomputable def FacesB_n19 : Code := cL FacesB_n17
noncomputable def FacesB_n20 : Code := cR FacesB_n17
noncomputable def FacesB_n21 : Code := cL FacesB_n20
noncomputable def FacesB_n22 : Code := cR FacesB_n20
noncomputable def FacesB_n23 : Code := cL FacesB_n18
noncomputable def FacesB_n24 : Code := cR FacesB_n18
noncomputable def FacesB_n25 : Code := cL FacesB_n23
noncomputable def FacesB_n26 : Code := cL FacesB_n25
noncomputable def FacesB_n27 : Code := cR FacesB_n25
noncomputable def FacesB_n28 : Code := cL FacesB_n24
noncomputable def FacesB_n29 : Code := cR FacesB_n24
noncomputable def FacesB_n30 : Code := cL FacesB_n28
noncomputable def FacesB_n31 : Code := cR FacesB_n28
set_option maxHeartbeats 1000000 in
set_option maxRecDepth 10000 in
theorem Faces_body {w : World} {M : Hp} {X : Fr} (d : Dg) {gsh gq1 gq3 gq4 gm k : Nat} {cA iA oA : Option Addr} {cc ic oc : Nat} (hsb : BxM M gsh 81 [.slice cA d.crs.length cc, .int .i64 d.loops, .slice iA (tabL d false (4 * d.crs.length)).length ic, .slice oA (tabL d true (4 * d.crs.length)).length oc]) (hsc : RdA cdCr M cA cc d.crs) (hsi : RdA cdPl M iA ic (tabL d false (4 * d.crs.length))) (hso : RdA cdPl M oA oc (tabL d true (4 * d.crs.length))) (hn : d.crs.length ≤ 16) (hab : arcsB d = true) (hk : k < 4 * d.crs.length) {C : Ctx} {R0 : Rs} {H : List Rs} {a : Act} (S : SH w M X (R0 :: H)) (hI1 : FacesI1 d gsh gq1 gq3 gq4 gm k a M H) :
    (rfB Faces_rf).wpIn C.F 0 Try.prog (post Try.prog C [.lp (fun _ w2 => ∃ M2 H2, M.le M2 ∧ SH w2 M2 X (R0 :: H2) ∧ FacesI d gsh gq1 gq3 gq4 gm (k + 1) M2 H2)]) a w := by
  obtain ⟨gq5, H1, ha, rfl, es, vs, vrout, seen, outc, rfl, hdo, hfn, hse⟩ := hI1
  change SH w M X [R0, Rs.box gq5 _ _, Rs.mp (fun x => Value.agg (cdDa.f x).toArray) Value.bool gm es, _, Rs.row (cdV 100) vrout vs, _, _] at S
  have hdn : okD d (dartN k) := dA_ok (by omega)
  have hvs := hdo.1
  have hmany := facesN_many d k
  rw [hfn] at hmany
  replace hmany : outc.length ≤ k := hmany
  rw [List.length_map] at hvs
  refine ws_in ha (c := rfB Faces_rf) rfl ?_
  refine ws_blockN FacesB_n2 1 rfl rfl rfl ?_
  refine ws_seqN FacesB_n3 FacesB_n4 rfl rfl rfl ?_
  refine ws_seqN FacesB_n5 FacesB_n6 rfl rfl rfl ?_
  refine ws_region rfl ?_
  refine wl_op (k := 0) (k' := 1) rfl rfl rfl (wo_run rfl rfl (run_load1 rfl rfl Try.underlying119 rfl (S.boxc (i := 5) rfl rfl)) ?_)
  refine wl_op (k := 1) (k' := 2) rfl rfl rfl (wo_run rfl rfl (run_loadN (us := [_, _]) rfl rfl Try.underlying102 rfl sz102 (S.boxcs (i := 1) rfl ⟨rfl, rfl, trivial⟩)) ?_)
  refine wl_op (k := 2) (k' := 3) rfl rfl rfl (wo_run rfl rfl (run_lookup (kc := (fun x => Value.agg (cdDa.f x).toArray)) (vc := Value.bool) (es := es) (k := (dartN k)) (zv := false) (i := 2) rfl rfl rfl Try.underlying119 mk102 zr4 S rfl) ?_)
  refine wl_end rfl ?_
  refine nm_sub [(1, _), (3, _), (4, _), (5, _), (14, _)] ⟨rfl, rfl, rfl, rfl, rfl, trivial⟩ ?_
  refine nm_thn ?_
  refine ws_condN FacesB_n7 FacesB_n8 rfl rfl rfl rfl (fun hb14 => ?_) (fun hb14 => ?_)
  · refine ws_exit rfl rfl ?_
    refine nm_lp ?_
    intro ax_ hax_
    exact ⟨_, _, Hp.le_refl _, S.pick [0, 2, 3, 4, 5, 6] [_, _, _, _, _, _] (by decide) ⟨rfl, rfl, rfl, rfl, rfl, rfl, trivial⟩, es, vs, vrout, seen, outc, rfl, hdo, facesN_skip hfn (by rw [← hse (k + 2) (by omega) (by omega)]; exact hb14), hse⟩
  · refine ws_skip rfl ?_
    refine nm_sub [(1, _), (3, _), (4, _), (5, _)] ⟨rfl, rfl, rfl, rfl, trivial⟩ ?_
    refine nm_thn ?_
    refine ws_seqN FacesB_n9 FacesB_n10 rfl rfl rfl ?_
    refine ws_region rfl ?_
    refine wl_op (k := 0) (k' := 1) rfl rfl rfl (wo_run rfl rfl (run_assign rfl rfl) ?_)
    refine wl_end rfl ?_
    refine nm_thn ?_
    refine ws_seqN FacesB_n11 FacesB_n12 rfl rfl rfl ?_
    refine ws_seqN FacesB_n13 FacesB_n14 rfl rfl rfl ?_
    refine ws_region rfl ?_
    refine wl_op (k := 0) (k' := 1) rfl rfl rfl (wo_run rfl rfl (run_loadN (us := [_, _]) rfl rfl Try.underlying102 rfl sz102 (S.boxcs (i := 1) rfl ⟨rfl, rfl, trivial⟩)) ?_)
    refine wl_op (k := 1) (k' := 2) rfl rfl rfl (wo_alloc (l := [_, _]) rfl rfl rfl zr102 rfl S ?_)
    intro gb1 w1 S1; clear S
    refine wl_op (k := 2) (k' := 3) rfl rfl rfl (wo_storeB (i := 0) (us := [_, _]) (l' := [_, _]) (H' := [_, _, _, _, _, _, _, _]) rfl rfl S1 rfl rfl rfl rfl sz102 rfl rfl rfl rfl ?_)
    intro w2 S2; clear S1
    refine wl_end rfl ?_
    refine nm_sub [(1, _), (3, _), (4, _), (6, _), (7, _)] ⟨rfl, rfl, rfl, rfl, rfl, trivial⟩ ?_
    refine nm_thn ?_
    refine ws_blockN FacesB_n15 2 rfl rfl rfl ?_
    have S3 := S2.nilrow cdDa; clear S2
    refine ws_loopE (fun mx_ ax_ wx_ => ∃ (es2 : List (Da × Bool)) (seen2 : List Bool) (x : Nat) (y : Da) (acc : List Int) (ringt : List Da) (vring : Value) (gbx : Nat), mx_ = free seen2 ∧ Env 35 [(1, .pointer (some ⟨gq1, 0, none⟩)), (3, .pointer (some ⟨gq3, 0, none⟩)), (4, .pointer (some ⟨gq4, 0, none⟩)), (6, vring), (7, .pointer (some ⟨gbx, 0, none⟩))] ax_ ∧ SH wx_ M X [Rs.row cdDa vring ringt, Rs.box gbx 102 [.int .i64 y.a, .bool y.b], R0, Rs.mp (fun x => Value.agg (cdDa.f x).toArray) Value.bool gm es2, Rs.box gq4 54 [vrout], Rs.row (cdV 100) vrout vs, Rs.box gq3 119 [.map (some gm)], Rs.box gq1 75 [.pointer (some ⟨gsh, 0, none⟩)]] ∧ ringF (nxC d) seen (k + 2) [] = ringF (nxC d) seen2 x acc ∧ ringt = dasL acc ∧ SeenM d es2 seen2 ∧ (2 ≤ x ∧ x < 4 * d.crs.length + 2) ∧ seen2.length = 4 * d.crs.length + 2 ∧ y = dA x ∧ acc.length + free seen2 ≤ 100) rfl ?_ ?_
    · intro ax_ hax_
      refine ⟨_, ⟨es, seen, k + 2, dartN k, [], _, _, _, rfl, hax_.sub ⟨rfl, rfl, rfl, rfl, rfl, trivial⟩, S3.pick [0, 1, 2, 4, 5, 6, 7, 8] [_, _, _, _, _, _, _, _] (by decide) ⟨rfl, rfl, rfl, rfl, rfl, rfl, rfl, rfl, trivial⟩, ?hq1f0, ?hq1f1, ?hq1f2, ?hq1f3, ?hq1f4, ?hq1f5, ?hq1f6⟩⟩
      case hq1f0 => rfl
      case hq1f1 => rfl
      case hq1f2 => exact hse
      case hq1f3 => omega
      case hq1f4 => (have h9 := facesN_len d k; rw [hfn] at h9; exact h9)
      case hq1f5 => rfl
      case hq1f6 => (have h9 := facesN_len d k; rw [hfn] at h9; have h8 : free seen ≤ seen.length := List.countP_le_length; simp only [List.length_nil]; simp only at h9; omega)
    · rintro m1 a1 w3 ⟨es2, seen2, x, y, acc, ringt, vring, gbx, rfl, he1, S4, hrg, hring, hse2, hx, hs2, hy, hroom⟩
      clear S3
      refine ws_in he1 (c := FacesB_n16) rfl ?_
      clear he1 a1
      have hyk : okD d y := by rw [hy]; exact dA_ok hx
      have hrl : ringt.length = acc.length := by rw [hring]; simp [dasL]
      have hgs := hse2 x hx.1 hx.2
      refine ws_seqN FacesB_n17 FacesB_n18 rfl rfl rfl ?_
      refine ws_seqN FacesB_n19 FacesB_n20 rfl rfl rfl ?_
      refine ws_region rfl ?_
      refine wl_op (k := 0) (k' := 1) rfl rfl rfl (wo_run rfl rfl (run_load1 rfl rfl Try.underlying119 rfl (S4.boxc (i := 6) rfl rfl)) ?_)
      refine wl_op (k := 1) (k' := 2) rfl rfl rfl (wo_run rfl rfl (run_loadN (us := [_, _]) rfl rfl Try.underlying102 rfl sz102 (S4.boxcs (i := 1) rfl ⟨rfl, rfl, trivial⟩)) ?_)
      refine wl_op (k := 2) (k' := 3) rfl rfl rfl (wo_run rfl rfl (run_lookup (kc := (fun x => Value.agg (cdDa.f x).toArray)) (vc := Value.bool) (es := es2) (k := y) (zv := false) (i := 3) rfl rfl rfl Try.underlying119 mk102 zr4 S4 rfl) ?_)
      refine wl_op (k := 3) (k' := 4) rfl rfl rfl (wo_run rfl rfl (run_not rfl rfl) ?_)
      refine wl_end rfl ?_
      refine nm_sub [(1, _), (3, _), (4, _), (6, _), (7, _), (19, _)] ⟨rfl, rfl, rfl, rfl, rfl, rfl, trivial⟩ ?_
      refine nm_thn ?_
      refine ws_condN FacesB_n21 FacesB_n22 rfl rfl rfl rfl (fun hb19 => ?_) (fun hb19 => ?_)
      · simp only [Bool.and_eq_true, Bool.or_eq_true, Bool.and_eq_false_iff, Bool.or_eq_false_iff, decide_eq_true_eq, decide_eq_false_iff_not, Bool.not_eq_true', Bool.not_eq_false'] at hb19
        refine ws_skip rfl ?_
        refine nm_sub [(1, _), (3, _), (4, _), (6, _), (7, _)] ⟨rfl, rfl, rfl, rfl, rfl, trivial⟩ ?_
        refine nm_thn ?_
        refine ws_seqN FacesB_n23 FacesB_n24 rfl rfl rfl ?_
        refine ws_blockN FacesB_n25 3 rfl rfl rfl ?_
        refine ws_seqN FacesB_n26 FacesB_n27 rfl rfl rfl ?_
        refine ws_region rfl ?_
        refine wl_op (k := 0) (k' := 1) rfl rfl rfl (wo_run rfl rfl (run_load1 rfl rfl Try.underlying119 rfl (S4.boxc (i := 6) rfl rfl)) ?_)
        refine wl_op (k := 1) (k' := 2) rfl rfl rfl (wo_run rfl rfl (run_loadN (us := [_, _]) rfl rfl Try.underlying102 rfl sz102 (S4.boxcs (i := 1) rfl ⟨rfl, rfl, trivial⟩)) ?_)
        refine wl_op (k := 2) (k' := 3) rfl rfl rfl (wo_mapUpdate (kc := (fun x => Value.agg (cdDa.f x).toArray)) (vc := Value.bool) (es := es2) (k := y) (e := true) (i := 3) (H' := [_, _, _, _, _, _, _, _]) rfl rfl S4 rfl rfl rfl rfl Try.underlying119 mk102 rfl ?_)
        intro w4 S5; clear S4
        refine wl_end rfl ?_
        refine nm_sub [(1, _), (3, _), (4, _), (6, _), (7, _)] ⟨rfl, rfl, rfl, rfl, rfl, trivial⟩ ?_
        refine nm_thn ?_
        refine ws_region rfl ?_
        refine wl_op (k := 0) (k' := 1) rfl rfl rfl (wo_run rfl rfl (run_move rfl rfl) ?_)
        refine wl_op (k := 1) (k' := 2) rfl rfl rfl (wo_run rfl rfl (run_loadN (us := [_, _]) rfl rfl Try.underlying102 rfl sz102 (S5.boxcs (i := 1) rfl ⟨rfl, rfl, trivial⟩)) ?_)
        refine wl_op (k := 2) (k' := 3) rfl rfl rfl (wo_buildSlice1 (C := cdDa) (l := [_, _]) rfl rfl rfl rfl sl100 rfl rfl rfl rfl S5 ?_)
        intro gb2 w5 S6; clear S5
        refine wl_op (k := 3) (k' := 4) rfl rfl rfl (wo_append1 (C := cdDa) (i := 1) (q := 0) (⟨y.a, y.b⟩ : Da) rfl rfl rfl rfl rfl rfl rfl rfl sl100 S6 rfl rfl rfl (by show (_ + 1) * 16 ≤ _; first | omega | (simp only [List.length_set, List.length_append, List.length_replicate, List.length_singleton, List.length_cons, List.length_nil]; omega)) ?_)
        intro vring1 w6 S7; clear S6
        have S8 := S7.pick [1, 2, 3, 4, 5, 6, 7, 8] [_, _, _, _, _, _, _, _] (by decide) ⟨rfl, rfl, rfl, rfl, rfl, rfl, rfl, rfl, trivial⟩; clear S7
        refine wl_op (k := 4) (k' := 5) rfl rfl rfl (wo_run rfl rfl (run_assign rfl rfl) ?_)
        refine wl_end rfl ?_
        refine nm_blk ?_
        refine nm_sub [(1, _), (3, _), (4, _), (6, _), (7, _)] ⟨rfl, rfl, rfl, rfl, rfl, trivial⟩ ?_
        refine nm_thn ?_
        refine ws_seqN FacesB_n28 FacesB_n29 rfl rfl rfl ?_
        refine ws_seqN FacesB_n30 FacesB_n31 rfl rfl rfl ?_
        refine ws_region rfl ?_
        refine wl_op (k := 0) (k' := 1) rfl rfl rfl (wo_run rfl rfl (run_loadN (us := [_, _]) rfl rfl Try.underlying102 rfl sz102 (S8.boxcs (i := 1) rfl ⟨rfl, rfl, trivial⟩)) ?_)
        refine wl_end rfl ?_
        refine nm_sub [(1, _), (3, _), (4, _), (6, _), (29, _)] ⟨rfl, rfl, rfl, rfl, rfl, trivial⟩ ?_
        refine nm_thn ?_
        refine ws_region rfl ?_
        refine wl_op (k := 0) (k' := 1) rfl rfl rfl (wo_alloc (l := [_, _]) rfl rfl rfl zr102 rfl S8 ?_)
        intro gb3 w7 S9; clear S8
        refine wl_op (k := 1) (k' := 2) rfl rfl rfl (wo_storeB (i := 0) (us := [_, _]) (l' := [_, _]) (H' := [_, _, _, _, _, _, _, _, _]) rfl rfl S9 rfl rfl rfl rfl sz102 rfl rfl rfl rfl ?_)
        intro w8 S10; clear S9
        refine wl_end rfl ?_
        refine nm_sub [(1, _), (3, _), (4, _), (6, _), (7, _)] ⟨rfl, rfl, rfl, rfl, rfl, trivial⟩ ?_
        refine nm_thn ?_
        refine ws_region rfl ?_
        refine wl_op (k := 0) (k' := 1) rfl rfl rfl (wo_run rfl rfl (run_load1 rfl rfl Try.underlying75 rfl (S10.boxc (i := 8) rfl rfl)) ?_)
        refine wl_op (k := 1) (k' := 2) rfl rfl rfl (wo_run rfl rfl (run_loadN (us := [_, _]) rfl rfl Try.underlying102 rfl sz102 (S10.boxcs (i := 0) rfl ⟨rfl, rfl, trivial⟩)) ?_)
        refine wl_op (k := 2) (k' := 3) rfl rfl rfl (wo_cq rfl rfl rfl rfl rfl rfl rfl cf87 S10 (Left_q d y (hsb.mono (Hp.le_un _ _)) (hsc.mono (Hp.le_un _ _)) (hsi.mono (Hp.le_un _ _)) (hso.mono (Hp.le_un _ _)) (by first | assumption | omega) hab (by first | assumption | omega) S10.lend) ?_)
        rintro _ w9 S11 rfl; clear S10
        refine wl_op (k := 3) (k' := 4) rfl rfl rfl (wo_storeB (i := 0) (us := [_, _]) (l' := [_, _]) (H' := [_, _, _, _, _, _, _, _, _]) rfl rfl S11 rfl rfl rfl rfl sz102 rfl rfl rfl rfl ?_)
        intro w10 S12; clear S11
        refine wl_end rfl ?_
        refine nm_lp ?_
        have hga : ga seen2 x = false := by rw [← hgs, ← hy]; simpa using hb19
        have hfr := free_set (seen := seen2) (x := x) (by omega) hga
        intro ax_ hax_
        refine ⟨_, ?hq2m, ⟨_, seen2.set x true, nxC d x, leftD d y, acc ++ [(x : Int)], _, _, _, rfl, hax_.sub ⟨rfl, rfl, rfl, rfl, rfl, trivial⟩, S12.pick [1, 0, 3, 4, 5, 6, 7, 8] [_, _, _, _, _, _, _, _] (by decide) ⟨rfl, rfl, rfl, rfl, rfl, rfl, rfl, rfl, trivial⟩, ?hq2f0, ?hq2f1, ?hq2f2, ?hq2f3, ?hq2f4, ?hq2f5, ?hq2f6⟩⟩
        case hq2f0 => (rw [hrg]; exact ringF_go (by omega) hga)
        case hq2f1 => (rw [dasL_snoc, ← hring, hy])
        case hq2f2 => (rw [hy]; exact hse2.put (by omega))
        case hq2f3 => exact nxC_rng hab hx
        case hq2f4 => (rw [List.length_set]; exact hs2)
        case hq2f5 => (rw [hy, dA_nxC hab hx])
        case hq2f6 => (simp only [List.length_append, List.length_cons, List.length_nil]; omega)
        case hq2m => omega
      · simp only [Bool.and_eq_true, Bool.or_eq_true, Bool.and_eq_false_iff, Bool.or_eq_false_iff, decide_eq_true_eq, decide_eq_false_iff_not, Bool.not_eq_true', Bool.not_eq_false'] at hb19
        refine ws_exit rfl rfl ?_
        refine nm_sub [(1, _), (3, _), (4, _), (6, _)] ⟨rfl, rfl, rfl, rfl, trivial⟩ ?_
        refine nm_thn ?_
        refine ws_region rfl ?_
        refine wl_op (k := 0) (k' := 1) rfl rfl rfl (wo_run rfl rfl (run_load1 rfl rfl Try.underlying54 rfl (S4.boxc (i := 4) rfl rfl)) ?_)
        refine wl_op (k := 1) (k' := 2) rfl rfl rfl (wo_run rfl rfl (run_move rfl rfl) ?_)
        obtain ⟨M1, hle2, S13, ⟨A1, c1, e1, hr1⟩⟩ := S4.pubrow (i := 0) (H' := [_, _, _, _, _, _, _, _]) rfl rfl (by show _ * 16 ≤ _; first | omega | (simp only [List.length_set, List.length_append, List.length_replicate, List.length_singleton, List.length_cons, List.length_nil]; omega))
        clear S4; subst e1
        replace hsb := hsb.mono hle2
        replace hsc := hsc.mono hle2
        replace hsi := hsi.mono hle2
        replace hso := hso.mono hle2
        replace hdo := hdo.mono hle2
        refine wl_op (k := 2) (k' := 3) rfl rfl rfl (wo_buildSlice1 (C := (cdV 100)) (l := [_]) rfl rfl rfl rfl sl54 rfl rfl rfl rfl S13 ?_)
        intro gb4 w11 S14; clear S13
        refine wl_op (k := 3) (k' := 4) rfl rfl rfl (wo_append1 (C := (cdV 100)) (i := 6) (q := 0) (⟨A1, ringt.length, c1⟩ : SlV) rfl rfl rfl rfl rfl rfl rfl rfl sl54 S14 rfl rfl rfl (by show (_ + 1) * 24 ≤ _; first | omega | (simp only [List.length_set, List.length_append, List.length_replicate, List.length_singleton, List.length_cons, List.length_nil]; omega)) ?_)
        intro vrout1 w12 S15; clear S14
        have S16 := S15.pick [1, 2, 3, 4, 5, 6, 7, 8] [_, _, _, _, _, _, _, _] (by decide) ⟨rfl, rfl, rfl, rfl, rfl, rfl, rfl, rfl, trivial⟩; clear S15
        have hd1 := hdo.snoc (c := c1) hr1
        refine wl_op (k := 4) (k' := 5) rfl rfl rfl (wo_storeB (i := 4) (us := [_]) (l' := [_]) (H' := [_, _, _, _, _, _, _, _]) rfl rfl S16 rfl rfl rfl (S16.cells1 (i := 5) rfl) sz54 rfl (ones_cons (S16.one (i := 5) rfl) rfl) rfl rfl ?_)
        intro w13 S17; clear S16
        refine wl_end rfl ?_
        refine nm_blk ?_
        refine nm_lp ?_
        intro ax_ hax_
        exact ⟨_, _, hle2, S17.pick [2, 3, 4, 5, 6, 7] [_, _, _, _, _, _] (by decide) ⟨rfl, rfl, rfl, rfl, rfl, rfl, trivial⟩, _, _, _, seen2, outc ++ [acc], rfl, by rw [List.map_append, show List.map dasL [acc] = [ringt] from by rw [hring]; rfl]; exact hd1, facesN_ring hfn (by rw [← hse (k + 2) (by omega) (by omega)]; exact hb14) (hrg.trans (ringF_stop (by rw [← hse2 x (by omega) (by omega), ← hy]; simpa using hb19))), hse2⟩

end InF
end Go.Proofs.Ytlbpgnimpcflaaa
