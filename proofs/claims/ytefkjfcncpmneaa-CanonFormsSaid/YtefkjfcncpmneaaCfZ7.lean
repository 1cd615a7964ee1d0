/- Part 7 of the proof of the law CanonForms: the walks through its functions and the plain laws that they need. -/
import Derived.Test.YtefkjfcncpmneaaCfZ6
set_option linter.unusedSimpArgs false
set_option linter.unusedVariables false
namespace Go.Proofs.Ytefkjfcncpmneaa
open Go.ChangeShapes Go.WideShapes Go.ChangeAt Go.RowKit
theorem ks_take {d : Dg} (hab : arcsB d = true) {i b : Nat} (hi : i < (pcsL d).length) (hb : bst (kD d) ((pcN d i).take ((ga (pcsL d) i).length - 1 + 1)) = some b) : (ksD d).take i ++ [((cfE d b).od, (cfE d b).co)] = (ksD d).take (i + 1) := by
 have hp := pc_pos hab hi
 rw [List.take_of_length_le (by rw [pcN_len]; omega)] at hb
 rw [(best_mem hab hi).1] at hb
 injection hb with hb
 rw [take_ga _ i (by rw [ksD_len]; exact hi), ksD_ga d hi, hb]
theorem bst_first {d : Dg} {i : Nat} (hp : 0 < (ga (pcsL d) i).length) : bst (kD d) ((pcN d i).take (0 + 1)) = some (ga (ga (pcsL d) i) 0).toNat := by
 rw [take_ga _ 0 (by rw [pcN_len]; exact hp), pcN_ga d i hp]; rfl
theorem sort_len {K : Nat → List Int} {m : Nat} {σ : List Nat} (h : SortK K m σ) : σ.length = m := by have := h.1.length_eq; simpa using this
theorem sort_lt {K : Nat → List Int} {m : Nat} {σ : List Nat} (h : SortK K m σ) {i : Nat} (hi : i < m) : ga σ i < m := List.mem_range.1 (h.1.subset (ga_mem (by rw [sort_len h]; exact hi)))
theorem kσ_mem {d : Dg} (hab : arcsB d = true) {σ : List Nat} (h : SortK (kO (ksD d)) (pcsL d).length σ) {kσ : List OK} (hk : kσ = List.map (ga (ksD d)) σ) : kσ.length = (pcsL d).length ∧ ∀ i, i < (pcsL d).length → (ga kσ i).1.length ≤ d.crs.length ∧ ∀ x, x ∈ (ga kσ i).1 → x.toNat < d.crs.length ∧ 0 ≤ x := by
 have hl := sort_len h
 refine ⟨by rw [hk, List.length_map, hl], fun i hi => ?_⟩
 have e : ga kσ i = ga (ksD d) (ga σ i) := by rw [hk, ga_map _ _ _ (by omega)]
 have h2 := sort_lt h hi
 rw [e]
 exact ⟨ks_len hab h2, fun x hx => ⟨(seq_mem hab h2 hx).1, (seq_mem hab h2 hx).2.1⟩⟩
theorem flatK_len {kσ : List OK} {n m : Nat} (hl : kσ.length = m) (h : ∀ i, i < m → (ga kσ i).1.length ≤ n) (i : Nat) (hi : i ≤ m) : ((kσ.take i).flatMap Prod.fst).length ≤ n * i := by
 induction i with
 | zero => simp
 | succ i ih =>
  rw [take_ga _ i (by omega), List.flatMap_append, List.length_append, Nat.mul_succ]
  have h1 := ih (by omega)
  have h2 := h i (by omega)
  simp only [List.flatMap_cons, List.flatMap_nil, List.append_nil]
  omega
theorem flat_mem {kσ : List OK} {n m : Nat} (hl : kσ.length = m) (h : ∀ i, i < m → ∀ x, x ∈ (ga kσ i).1 → x.toNat < n ∧ 0 ≤ x) (i : Nat) (hi : i ≤ m) {x : Int} (hx : x ∈ (kσ.take i).flatMap Prod.fst) : x.toNat < n := by
 obtain ⟨y, hy, hx⟩ := List.mem_flatMap.1 hx
 have hy := List.mem_of_mem_take hy
 obtain ⟨j, hj, rfl⟩ := List.mem_iff_getElem.1 hy
 have := h j (by omega) x (by rw [ga_eq hj]; exact hx)
 exact this.1
noncomputable def Form_n0 : Code := Try.f28.body.getD .skip
noncomputable def Form_n1 : Code := cL Form_n0
noncomputable def Form_n2 : Code := cR Form_n0
noncomputable def Form_n3 : Code := cL Form_n2
noncomputable def Form_n4 : Code := cR Form_n2
noncomputable def Form_n5 : Code := cL Form_n4
noncomputable def Form_n6 : Code := cR Form_n4
noncomputable def Form_n7 : Code := cL Form_n5
noncomputable def Form_n8 : Code := cR Form_n5
noncomputable def Form_n9 : Code := cL Form_n8
noncomputable def Form_n10 : Code := cL Form_n9
noncomputable def Form_n11 : Code := cL Form_n10
noncomputable def Form_n12 : Code := cR Form_n10
noncomputable def Form_n13 : Code := cL Form_n12
noncomputable def Form_n14 : Code := cR Form_n12
noncomputable def Form_n15 : Code := cL Form_n13
noncomputable def Form_n16 : Code := cR Form_n13
noncomputable def Form_n17 : Code := cL Form_n14
noncomputable def Form_n18 : Code := cR Form_n14
noncomputable def Form_n19 : Code := cL Form_n17
noncomputable def Form_n20 : Code := cL Form_n19
noncomputable def Form_n21 : Code := cR Form_n19
noncomputable def Form_n22 : Code := cL Form_n21
noncomputable def Form_n23 : Code := cR Form_n21
noncomputable def Form_n24 : Code := cL Form_n23
noncomputable def Form_n25 : Code := cR Form_n23
noncomputable def Form_n26 : Code := cL Form_n24
noncomputable def Form_n27 : Code := cR Form_n24
noncomputable def Form_n28 : Code := cL Form_n27
noncomputable def Form_n29 : Code := cL Form_n28
noncomputable def Form_n30 : Code := cL Form_n29
noncomputable def Form_n31 : Code := cR Form_n29
noncomputable def Form_n32 : Code := cL Form_n31
noncomputable def Form_n33 : Code := cR Form_n31
noncomputable def Form_n34 : Code := cL Form_n32
noncomputable def Form_n35 : Code := cR Form_n32
noncomputable def Form_n36 : Code := cL Form_n33
noncomputable def Form_n37 : Code := cR Form_n33
noncomputable def Form_n38 : Code := cL Form_n36
noncomputable def Form_n39 : Code := cL Form_n38
noncomputable def Form_n40 : Code := cR Form_n38
noncomputable def Form_n41 : Code := cL Form_n40
noncomputable def Form_n42 : Code := cR Form_n40
noncomputable def Form_n43 : Code := cL Form_n42
noncomputable def Form_n44 : Code := cR Form_n42
noncomputable def Form_n45 : Code := cL Form_n44
noncomputable def Form_n46 : Code := cR Form_n44
noncomputable def Form_n47 : Code := cL Form_n6
noncomputable def Form_n48 : Code := cR Form_n6
noncomputable def Form_n49 : Code := cL Form_n48
noncomputable def Form_n50 : Code := cR Form_n48
noncomputable def Form_n51 : Code := cL Form_n50
noncomputable def Form_n52 : Code := cR Form_n50
noncomputable def Form_n53 : Code := cL Form_n52
noncomputable def Form_n54 : Code := cR Form_n52
noncomputable def Form_n55 : Code := cL Form_n54
noncomputable def Form_n56 : Code := cR Form_n54
noncomputable def Form_n57 : Code := cL Form_n55
noncomputable def Form_n58 : Code := cR Form_n55
noncomputable def Form_n59 : Code := cL Form_n58
noncomputable def Form_n60 : Code := cL Form_n59
noncomputable def Form_n61 : Code := cL Form_n60
noncomputable def Form_n62 : Code := cR Form_n60
noncomputable def Form_n63 : Code := cL Form_n62
noncomputable def Form_n64 : Code := cR Form_n62
noncomputable def Form_n65 : Code := cL Form_n63
noncomputable def Form_n66 : Code := cR Form_n63
noncomputable def Form_n67 : Code := cL Form_n64
noncomputable def Form_n68 : Code := cR Form_n64
noncomputable def Form_n69 : Code := cL Form_n67
noncomputable def Form_n70 : Code := cL Form_n69
noncomputable def Form_n71 : Code := cR Form_n69
noncomputable def Form_n72 : Code := cL Form_n71
noncomputable def Form_n73 : Code := cR Form_n71
noncomputable def Form_n74 : Code := cL Form_n73
noncomputable def Form_n75 : Code := cL Form_n74
noncomputable def Form_n76 : Code := cL Form_n75
noncomputable def Form_n77 : Code := cR Form_n75
noncomputable def Form_n78 : Code := cL Form_n77
noncomputable def Form_n79 : Code := cR Form_n77
noncomputable def Form_n80 : Code := cL Form_n78
noncomputable def Form_n81 : Code := cR Form_n78
noncomputable def Form_n82 : Code := cL Form_n79
noncomputable def Form_n83 : Code := cR Form_n79
noncomputable def Form_n84 : Code := cL Form_n82
noncomputable def Form_n85 : Code := cL Form_n84
noncomputable def Form_n86 : Code := cR Form_n84
noncomputable def Form_n87 : Code := cL Form_n86
noncomputable def Form_n88 : Code := cR Form_n86
noncomputable def Form_n89 : Code := cL Form_n56
noncomputable def Form_n90 : Code := cR Form_n56
set_option maxHeartbeats 4000000 in
set_option maxRecDepth 10000 in
theorem Form_t {w : World} {M : Hp} {X : Fr} (d : Dg) {gsh : Nat} {cA iA oA : Option Addr} {cc ic oc : Nat} (hsb : BxM (M.un X.h) gsh 93 [.slice cA d.crs.length cc, .int .i64 d.loops, .slice iA (tabL d false (4 * d.crs.length)).length ic, .slice oA (tabL d true (4 * d.crs.length)).length oc]) (hsc : RdA cdCr (M.un X.h) cA cc d.crs) (hsi : RdA cdPl (M.un X.h) iA ic (tabL d false (4 * d.crs.length))) (hso : RdA cdPl (M.un X.h) oA oc (tabL d true (4 * d.crs.length))) (hn : d.crs.length ≤ 16) (hab : arcsB d = true) (hpm : (pcsL d).length ≤ 16) (S : SH w M X []) : Ct Try.prog 28 [.pointer (some ⟨gsh, 0, none⟩)] w M X (fun u N => ∃ A c, u = .agg [.slice A (canD d).crs.length c, .int .i64 (canD d).loops].toArray ∧ RdA cdCr N A c (canD d).crs) := by
 unfold Ct
 refine calls_in (b := Form_n0) Try.func28 rfl Try.ntmps28 rfl (fun C hC => ?_)
 refine ws_sub [(0, _)] ⟨rfl, trivial⟩ ?_
 refine ws_seqN Form_n1 Form_n2 rfl rfl rfl ?_
 refine ws_region rfl ?_
 refine wlo 0 1 rfl rfl rfl (wo_alloc (l := [_, _]) rfl rfl rfl zr24 rfl S ?_)
 intro gb1 w1 S1; clear S
 refine wl_end rfl ?_
 refine nm_thn ?_
 refine ws_seqN Form_n3 Form_n4 rfl rfl rfl ?_
 refine ws_region rfl ?_
 refine wla 0 1 rfl rfl rfl rfl rfl rfl rfl ?_
 refine wl_end rfl ?_
 refine nm_thn ?_
 refine ws_seqN Form_n5 Form_n6 rfl rfl rfl ?_
 refine ws_seqN Form_n7 Form_n8 rfl rfl rfl ?_
 refine ws_region rfl ?_
 refine wlm 0 1 rfl rfl rfl rfl rfl rfl rfl ?_
 refine wlo 1 2 rfl rfl rfl (wo_ct rfl rfl rfl rfl rfl rfl rfl cf61 S1 (Pieces_t d (hsb.mono S1.un_XH) (hsc.mono S1.un_XH) (hsi.mono S1.un_XH) (hso.mono S1.un_XH) hn hab S1.lend) ?_)
 intro vw2 w2 M1 hle1 S2 hRw2; clear S1
 replace hsb := hsb.mono (Hp.un_mono hle1 S2.mx)
 replace hsc := hsc.mono (Hp.un_mono hle1 S2.mx)
 replace hsi := hsi.mono (Hp.un_mono hle1 S2.mx)
 replace hso := hso.mono (Hp.un_mono hle1 S2.mx)
 obtain ⟨A1, c1, vs1, rfl, hr1, hd1⟩ := hRw2
 have hlenpcsL := hd1.1
 refine wlo 2 3 rfl rfl rfl (wo_run rfl rfl (run_len rfl rfl rfl rfl rfl rfl Try.underlying34) ?_)
 refine wlm 3 4 rfl rfl rfl rfl rfl rfl rfl ?_
 refine wl_end rfl ?_
 refine nm_sub [(0, _), (2, _), (3, _), (19, _), (20, _), (21, _)] ⟨rfl, rfl, rfl, rfl, rfl, rfl, trivial⟩ ?_
 refine nm_thn ?_
 refine ws_blockN Form_n9 0 rfl rfl rfl ?_
 have S3 := S2.nilrow cdVw; clear S2
 refine ws_loopE (fun mx_ ax_ wx_ => ∃ (i : Nat) (ws : List Vw) (kz : List OK) (vrv : Value) (M2 : Hp), M1.le M2 ∧ mx_ = (pcsL d).length - i ∧ Env 111 [(0, .pointer (some ⟨gsh, 0, none⟩)), (2, .pointer (some ⟨gb1, 0, none⟩)), (3, vrv), (19, .slice A1 vs1.length c1), (20, .int .i64 (vs1.length : Int)), (21, .int .i64 (i : Int))] ax_ ∧ SH wx_ M2 X [Rs.row cdVw vrv ws, Rs.box gb1 24 [.slice none 0 0, .int .i64 0]] ∧ i ≤ (pcsL d).length ∧ kz = (ksD d).take i ∧ VwOk M2 ws kz) rfl ?_ ?_
 ·intro ax_ hax_
  refine ⟨_, ⟨0, _, ([]), _, _, Hp.le_refl _, rfl, hax_.sub ⟨rfl, rfl, rfl, rfl, rfl, rfl, trivial⟩, S3.pick [0, 1] [_, _] (by decide) ⟨rfl, rfl, trivial⟩, ?hq1f0, ?hq1f1, ?hq1f2⟩⟩
  case hq1f0 => omega
  case hq1f1 => rfl
  case hq1f2 => exact VwOk.nil_
 ·rintro m1 a1 w3 ⟨i, ws, kz, vrv, M2, hle2, rfl, he1, S4, hi, hkz, hz1⟩
  clear S3
  refine ws_in he1 (c := Form_n10) rfl ?_
  clear he1 a1
  replace hsb := hsb.mono (Hp.un_mono hle2 S4.mx)
  replace hsc := hsc.mono (Hp.un_mono hle2 S4.mx)
  replace hsi := hsi.mono (Hp.un_mono hle2 S4.mx)
  replace hso := hso.mono (Hp.un_mono hle2 S4.mx)
  replace hr1 := hr1.mono hle2
  replace hd1 := hd1.mono hle2
  have hzl := hz1.1
  have hkl : kz.length = i := by rw [hkz, List.length_take, ksD_len]; omega
  refine ws_seqN Form_n11 Form_n12 rfl rfl rfl ?_
  refine ws_region rfl ?_
  refine wlo 0 1 rfl rfl rfl (wo_run rfl rfl (run_lss rfl rfl rfl) ?_)
  refine wl_end rfl ?_
  refine nm_thn ?_
  refine ws_seqN Form_n13 Form_n14 rfl rfl rfl ?_
  refine ws_condN Form_n15 Form_n16 rfl rfl rfl rfl (fun hb22 => ?_) (fun hb22 => ?_)
  ·replace hb22 := of_decide_eq_true hb22
   refine ws_skip rfl ?_
   refine nm_sub [(0, _), (2, _), (3, _), (19, _), (20, _), (21, _)] ⟨rfl, rfl, rfl, rfl, rfl, rfl, trivial⟩ ?_
   refine nm_thn ?_
   refine ws_seqN Form_n17 Form_n18 rfl rfl rfl ?_
   refine ws_blockN Form_n19 1 rfl rfl rfl ?_
   refine ws_seqN Form_n20 Form_n21 rfl rfl rfl ?_
   refine ws_region rfl ?_
   refine wlo 0 1 rfl rfl rfl (wo_run rfl rfl (run_indexM (C := (cdV 33)) i rfl rfl rfl sl34 (by first | rfl | omega) hr1 (by first | omega | (simp only [lens]; omega))) ?_)
   obtain ⟨hn1, hr2⟩ := hd1.2 i (by first | omega | (simp only [lens]; omega))
   have rmhr2 : (ga (pcsL d) i).length * 8 ≤ 140737488355328 := hr2.room
   refine wlo 1 2 rfl rfl rfl (wo_run rfl rfl (run_load1 rfl rfl Try.underlying33 rfl (hr1.cell S4.m (i := i) (by first | omega | (simp only [lens]; omega)) 0 rfl (congrArg (fun n => some (Value.slice _ n _)) hn1))) ?_)
   refine wla 2 3 rfl rfl rfl rfl rfl rfl rfl ?_
   refine wl_end rfl ?_
   refine nm_sub [(0, _), (2, _), (3, _), (19, _), (20, _), (21, _), (5, _)] ⟨rfl, rfl, rfl, rfl, rfl, rfl, rfl, trivial⟩ ?_
   refine nm_thn ?_
   refine ws_seqN Form_n22 Form_n23 rfl rfl rfl ?_
   have hpl := pc_pos hab (show i < (pcsL d).length by omega)
   refine ws_region rfl ?_
   refine wlm 0 1 rfl rfl rfl rfl rfl rfl rfl ?_
   refine wlm 1 2 rfl rfl rfl rfl rfl rfl rfl ?_
   refine wlo 2 3 rfl rfl rfl (wo_run rfl rfl (run_indexM (C := cdInt) 0 rfl rfl rfl sl33 (by first | rfl | omega) hr2 (by first | omega | (simp only [lens]; omega))) ?_)
   refine wlo 3 4 rfl rfl rfl (wo_run rfl rfl (run_load1 rfl rfl Try.underlying3 rfl (hr2.cell S4.m (i := 0) (by first | omega | (simp only [lens]; omega)) 0 rfl rfl)) ?_)
   obtain ⟨hx1, hx2, hx3⟩ := pc_mem hab (show i < (pcsL d).length by omega) (ga_mem hpl)
   obtain ⟨x0, hx0⟩ : ∃ x0 : Nat, ga (ga (pcsL d) i) 0 = (x0 : Int) := ⟨(ga (ga (pcsL d) i) 0).toNat, by omega⟩
   have hx0t : (ga (ga (pcsL d) i) 0).toNat = x0 := by omega
   have hx0l : x0 < d.crs.length := by omega
   have hx0p : pcI d x0 = i := by rw [← hx0t]; exact hx3
   refine wl_eq 28 (.int .i64 (x0 : Int)) rfl (int_eq hx0) ?_
   refine wlo 4 5 rfl rfl rfl (wo_ct rfl rfl rfl rfl rfl rfl rfl cf62 S4 (see_t d x0 (hsb.mono S4.un_XH) (hsc.mono S4.un_XH) (hsi.mono S4.un_XH) (hso.mono S4.un_XH) hn hab (by omega) S4.lend) ?_)
   intro vw4 w4 M3 hle3 S5 hRw4; clear S4
   replace hsb := hsb.mono (Hp.un_mono hle3 S5.mx)
   replace hsc := hsc.mono (Hp.un_mono hle3 S5.mx)
   replace hsi := hsi.mono (Hp.un_mono hle3 S5.mx)
   replace hso := hso.mono (Hp.un_mono hle3 S5.mx)
   replace hr1 := hr1.mono hle3
   replace hd1 := hd1.mono hle3
   replace hz1 := hz1.mono hle3
   replace hr2 := hr2.mono hle3
   obtain ⟨A2, c2, B1, e1, rfl, hr3, hr4⟩ := hRw4
   refine wlo 5 6 rfl rfl rfl (wo_alloc (l := [_, _]) rfl rfl rfl zr108 rfl S5 ?_)
   intro gb2 w5 S6; clear S5
   refine wlo 6 7 rfl rfl rfl (wo_storeB (i := 0) (us := [_, _]) (l' := [_, _]) (H' := [_, _, _]) rfl rfl S6 rfl rfl rfl rfl sz108 rfl rfl rfl rfl ?_)
   intro w6 S7; clear S6
   refine wl_end rfl ?_
   refine nm_sub [(0, _), (2, _), (3, _), (19, _), (20, _), (21, _), (5, _), (6, _)] ⟨rfl, rfl, rfl, rfl, rfl, rfl, rfl, rfl, trivial⟩ ?_
   refine nm_thn ?_
   refine ws_seqN Form_n24 Form_n25 rfl rfl rfl ?_
   refine ws_seqN Form_n26 Form_n27 rfl rfl rfl ?_
   refine ws_region rfl ?_
   refine wlm 0 1 rfl rfl rfl rfl rfl rfl rfl ?_
   refine wlo 1 2 rfl rfl rfl (wo_sliceD (C := cdInt) 1 rfl rfl rfl rfl rfl sl33 (by first | rfl | omega) (by first | omega | (simp only [lens]; omega)) hr2 ?_)
   intro A3 c3 hr5
   refine wlo 2 3 rfl rfl rfl (wo_run rfl rfl (run_len rfl rfl rfl rfl rfl rfl Try.underlying33) ?_)
   refine wlm 3 4 rfl rfl rfl rfl rfl rfl rfl ?_
   refine wl_end rfl ?_
   refine nm_sub [(0, _), (2, _), (3, _), (19, _), (20, _), (21, _), (6, _), (31, _), (32, _), (33, _)] ⟨rfl, rfl, rfl, rfl, rfl, rfl, rfl, rfl, rfl, rfl, trivial⟩ ?_
   refine nm_thn ?_
   refine ws_blockN Form_n28 2 rfl rfl rfl ?_
   refine ws_loopE (fun mx_ ax_ wx_ => ∃ (j : Nat) (b : Nat) (pA : Option Addr) (pc_ : Nat) (qA : Option Addr) (qc : Nat) (M4 : Hp), M3.le M4 ∧ mx_ = (ga (pcsL d) i).length - 1 - j ∧ Env 111 [(0, .pointer (some ⟨gsh, 0, none⟩)), (2, .pointer (some ⟨gb1, 0, none⟩)), (3, vrv), (19, .slice A1 vs1.length c1), (20, .int .i64 (vs1.length : Int)), (21, .int .i64 (i : Int)), (6, .pointer (some ⟨gb2, 0, none⟩)), (31, .slice A3 ((ga (pcsL d) i).drop 1).length c3), (32, .int .i64 (((ga (pcsL d) i).drop 1).length : Int)), (33, .int .i64 (j : Int))] ax_ ∧ SH wx_ M4 X [Rs.box gb2 108 [.slice pA ((cfE d b).od).length pc_, .slice qA ((cfE d b).co).length qc], Rs.row cdVw vrv ws, Rs.box gb1 24 [.slice none 0 0, .int .i64 0]] ∧ j ≤ (ga (pcsL d) i).length - 1 ∧ bst (kD d) ((pcN d i).take (j + 1)) = some b ∧ b < d.crs.length ∧ pcI d b = i ∧ RdA cdInt M4 pA pc_ (cfE d b).od ∧ RdA cdInt M4 qA qc (cfE d b).co) rfl ?_ ?_
   ·intro ax_ hax_
    refine ⟨_, ⟨0, x0, _, _, _, _, _, Hp.le_refl _, rfl, hax_.sub ⟨rfl, rfl, rfl, rfl, rfl, rfl, rfl, rfl, rfl, rfl, trivial⟩, S7.pick [0, 1, 2] [_, _, _] (by decide) ⟨rfl, rfl, rfl, trivial⟩, ?hq2f0, ?hq2f1, ?hq2f2, ?hq2f3, ?hq2f4, ?hq2f5⟩⟩
    case hq2f0 => omega
    case hq2f1 => (rw [← hx0t]; exact bst_first hpl)
    case hq2f2 => exact hx0l
    case hq2f3 => exact hx0p
    case hq2f4 => exact hr3
    case hq2f5 => exact hr4
   ·rintro m2 a2 w7 ⟨j, b, pA, pc_, qA, qc, M4, hle4, rfl, he2, S8, hj, hbb, hbl, hbp, hbo, hbk⟩
    clear S7
    refine ws_in he2 (c := Form_n29) rfl ?_
    clear he2 a2
    replace hsb := hsb.mono (Hp.un_mono hle4 S8.mx)
    replace hsc := hsc.mono (Hp.un_mono hle4 S8.mx)
    replace hsi := hsi.mono (Hp.un_mono hle4 S8.mx)
    replace hso := hso.mono (Hp.un_mono hle4 S8.mx)
    replace hr1 := hr1.mono hle4
    replace hd1 := hd1.mono hle4
    replace hz1 := hz1.mono hle4
    replace hr2 := hr2.mono hle4
    replace hr3 := hr3.mono hle4
    replace hr4 := hr4.mono hle4
    replace hr5 := hr5.mono hle4
    have hdl : (List.drop 1 (ga (pcsL d) i)).length = (ga (pcsL d) i).length - 1 := List.length_drop ..
    refine ws_seqN Form_n30 Form_n31 rfl rfl rfl ?_
    refine ws_region rfl ?_
    refine wlo 0 1 rfl rfl rfl (wo_run rfl rfl (run_lss rfl rfl rfl) ?_)
    refine wl_end rfl ?_
    refine nm_thn ?_
    refine ws_seqN Form_n32 Form_n33 rfl rfl rfl ?_
    refine ws_condN Form_n34 Form_n35 rfl rfl rfl rfl (fun hb34 => ?_) (fun hb34 => ?_)
    ·replace hb34 := of_decide_eq_true hb34
     refine ws_skip rfl ?_
     refine nm_sub [(0, _), (2, _), (3, _), (19, _), (20, _), (21, _), (6, _), (31, _), (32, _), (33, _)] ⟨rfl, rfl, rfl, rfl, rfl, rfl, rfl, rfl, rfl, rfl, trivial⟩ ?_
     refine nm_thn ?_
     refine ws_seqN Form_n36 Form_n37 rfl rfl rfl ?_
     refine ws_blockN Form_n38 3 rfl rfl rfl ?_
     refine ws_seqN Form_n39 Form_n40 rfl rfl rfl ?_
     refine ws_region rfl ?_
     refine wlo 0 1 rfl rfl rfl (wo_run rfl rfl (run_indexM (C := cdInt) j rfl rfl rfl sl33 (by first | rfl | omega) hr5 (by first | omega | (simp only [lens]; omega))) ?_)
     refine wlo 1 2 rfl rfl rfl (wo_run rfl rfl (run_load1 rfl rfl Try.underlying3 rfl (hr5.cell S8.m (i := j) (by first | omega | (simp only [lens]; omega)) 0 rfl rfl)) ?_)
     refine wla 2 3 rfl rfl rfl rfl rfl rfl rfl ?_
     refine wl_end rfl ?_
     refine nm_sub [(0, _), (2, _), (3, _), (19, _), (20, _), (21, _), (6, _), (31, _), (32, _), (33, _), (8, _)] ⟨rfl, rfl, rfl, rfl, rfl, rfl, rfl, rfl, rfl, rfl, rfl, trivial⟩ ?_
     refine nm_thn ?_
     refine ws_seqN Form_n41 Form_n42 rfl rfl rfl ?_
     have hgd : ga (List.drop 1 (ga (pcsL d) i)) j = ga (ga (pcsL d) i) (j + 1) := by rw [ga_drop, Nat.add_comm]
     obtain ⟨hy1, hy2, hy3⟩ := pc_mem hab (show i < (pcsL d).length by omega) (ga_mem (show j + 1 < (ga (pcsL d) i).length by omega))
     obtain ⟨x, hx⟩ : ∃ x : Nat, ga (ga (pcsL d) i) (j + 1) = (x : Int) := ⟨(ga (ga (pcsL d) i) (j + 1)).toNat, by omega⟩
     have hxt : (ga (ga (pcsL d) i) (j + 1)).toNat = x := by omega
     have hxl : x < d.crs.length := by omega
     have hxp : pcI d x = i := by rw [← hxt]; exact hy3
     have hkl9 : (kD d x).length = (kD d b).length := kD_len hab hxl hbl (by rw [hxp, hbp])
     refine ws_eq 8 (.int .i64 (x : Int)) rfl (int_eq (by rw [hgd, hx])) ?_
     refine ws_region rfl ?_
     refine wlm 0 1 rfl rfl rfl rfl rfl rfl rfl ?_
     refine wlm 1 2 rfl rfl rfl rfl rfl rfl rfl ?_
     refine wlo 2 3 rfl rfl rfl (wo_ct rfl rfl rfl rfl rfl rfl rfl cf62 S8 (see_t d x (hsb.mono S8.un_XH) (hsc.mono S8.un_XH) (hsi.mono S8.un_XH) (hso.mono S8.un_XH) hn hab (by omega) S8.lend) ?_)
     intro vw8 w8 M5 hle5 S9 hRw8; clear S8
     replace hsb := hsb.mono (Hp.un_mono hle5 S9.mx)
     replace hsc := hsc.mono (Hp.un_mono hle5 S9.mx)
     replace hsi := hsi.mono (Hp.un_mono hle5 S9.mx)
     replace hso := hso.mono (Hp.un_mono hle5 S9.mx)
     replace hr1 := hr1.mono hle5
     replace hd1 := hd1.mono hle5
     replace hz1 := hz1.mono hle5
     replace hr2 := hr2.mono hle5
     replace hr3 := hr3.mono hle5
     replace hr4 := hr4.mono hle5
     replace hr5 := hr5.mono hle5
     replace hbo := hbo.mono hle5
     replace hbk := hbk.mono hle5
     obtain ⟨A4, c4, B2, e2, rfl, hr6, hr7⟩ := hRw8
     refine wlo 3 4 rfl rfl rfl (wo_alloc (l := [_, _]) rfl rfl rfl zr108 rfl S9 ?_)
     intro gb3 w9 S10; clear S9
     refine wlo 4 5 rfl rfl rfl (wo_storeB (i := 0) (us := [_, _]) (l' := [_, _]) (H' := [_, _, _, _]) rfl rfl S10 rfl rfl rfl rfl sz108 rfl rfl rfl rfl ?_)
     intro w10 S11; clear S10
     refine wl_end rfl ?_
     refine nm_sub [(0, _), (2, _), (3, _), (19, _), (20, _), (21, _), (6, _), (31, _), (32, _), (33, _), (9, _)] ⟨rfl, rfl, rfl, rfl, rfl, rfl, rfl, rfl, rfl, rfl, rfl, trivial⟩ ?_
     refine nm_thn ?_
     refine ws_seqN Form_n43 Form_n44 rfl rfl rfl ?_
     refine ws_region rfl ?_
     refine wlo 0 1 rfl rfl rfl (wo_run rfl rfl (run_fieldAddr rfl rfl Try.underlying108 rfl (ce33) (nf33)) ?_)
     refine wlo 1 2 rfl rfl rfl (wo_run rfl rfl (run_load1 rfl rfl Try.underlying33 rfl (S11.boxc (i := 0) rfl rfl)) ?_)
     refine wlo 2 3 rfl rfl rfl (wo_run rfl rfl (run_fieldAddr rfl rfl Try.underlying108 rfl (ce33) (nf33)) ?_)
     refine wlo 3 4 rfl rfl rfl (wo_run rfl rfl (run_load1 rfl rfl Try.underlying33 rfl (S11.boxc (i := 1) rfl rfl)) ?_)
     refine wlo 4 5 rfl rfl rfl (wo_cq rfl rfl rfl rfl rfl rfl rfl cf63 S11 (CompareL_q ((cfE d x).co) ((cfE d b).co) (hr7.mono (Hp.le_un _ _)) (hbk.mono (Hp.le_un _ _)) S11.lend) ?_)
     rintro _ w11 S12 rfl; clear S11
     refine wlo 5 6 rfl rfl rfl (wo_run rfl rfl (run_lss rfl rfl rfl) ?_)
     refine wl_end rfl ?_
     refine nm_sub [(0, _), (2, _), (3, _), (19, _), (20, _), (21, _), (6, _), (31, _), (32, _), (33, _), (9, _), (45, _)] ⟨rfl, rfl, rfl, rfl, rfl, rfl, rfl, rfl, rfl, rfl, rfl, rfl, trivial⟩ ?_
     refine nm_thn ?_
     refine ws_condN Form_n45 Form_n46 rfl rfl rfl rfl (fun hb45 => ?_) (fun hb45 => ?_)
     ·replace hb45 := of_decide_eq_true hb45
      refine ws_region rfl ?_
      refine wlo 0 1 rfl rfl rfl (wo_run rfl rfl (run_loadN (us := [_, _]) rfl rfl Try.underlying108 rfl sz108 (S12.boxcs (i := 0) rfl ⟨rfl, rfl, trivial⟩)) ?_)
      refine wlo 1 2 rfl rfl rfl (wo_storeB (i := 1) (us := [_, _]) (l' := [_, _]) (H' := [_, _, _, _]) rfl rfl S12 rfl rfl rfl rfl sz108 rfl rfl rfl rfl ?_)
      intro w12 S13; clear S12
      refine wl_end rfl ?_
      refine nm_blk ?_
      refine nm_sub [(0, _), (2, _), (3, _), (19, _), (20, _), (21, _), (6, _), (31, _), (32, _), (33, _)] ⟨rfl, rfl, rfl, rfl, rfl, rfl, rfl, rfl, rfl, rfl, trivial⟩ ?_
      refine nm_thn ?_
      refine ws_region rfl ?_
      refine wlo 0 1 rfl rfl rfl (wo_run rfl rfl (run_add rfl rfl rfl (by first | omega | (simp only [lens]; omega))) ?_)
      refine wlm 1 2 rfl rfl rfl rfl rfl rfl rfl ?_
      refine wl_end rfl ?_
      refine nm_lp ?_
      intro ax_ hax_
      refine ⟨_, ?hq3m, ⟨j + 1, x, _, _, _, _, _, (hle4.trans hle5), rfl, hax_.sub ⟨rfl, rfl, rfl, rfl, rfl, rfl, rfl, rfl, rfl, rfl, trivial⟩, S13.pick [1, 2, 3] [_, _, _] (by decide) ⟨rfl, rfl, rfl, trivial⟩, ?hq3f0, ?hq3f1, ?hq3f2, ?hq3f3, ?hq3f4, ?hq3f5⟩⟩
      case hq3f0 => omega
      case hq3f1 => (rw [take_ga _ (j + 1) (by rw [pcN_len]; omega), pcN_ga d i (by omega), hxt, bst_step hbb hkl9]; first | rw [if_pos (show cmpL (kD d x) (kD d b) < 0 from hb45)] | rw [if_neg (show ¬ cmpL (kD d x) (kD d b) < 0 from hb45)])
      case hq3f2 => assumption
      case hq3f3 => assumption
      case hq3f4 => exact hr6
      case hq3f5 => exact hr7
      case hq3m => omega
     ·replace hb45 := of_decide_eq_false hb45
      refine ws_skip rfl ?_
      refine nm_blk ?_
      refine nm_sub [(0, _), (2, _), (3, _), (19, _), (20, _), (21, _), (6, _), (31, _), (32, _), (33, _)] ⟨rfl, rfl, rfl, rfl, rfl, rfl, rfl, rfl, rfl, rfl, trivial⟩ ?_
      refine nm_thn ?_
      refine ws_region rfl ?_
      refine wlo 0 1 rfl rfl rfl (wo_run rfl rfl (run_add rfl rfl rfl (by first | omega | (simp only [lens]; omega))) ?_)
      refine wlm 1 2 rfl rfl rfl rfl rfl rfl rfl ?_
      refine wl_end rfl ?_
      refine nm_lp ?_
      intro ax_ hax_
      refine ⟨_, ?hq4m, ⟨j + 1, b, _, _, _, _, _, (hle4.trans hle5), rfl, hax_.sub ⟨rfl, rfl, rfl, rfl, rfl, rfl, rfl, rfl, rfl, rfl, trivial⟩, S12.pick [1, 2, 3] [_, _, _] (by decide) ⟨rfl, rfl, rfl, trivial⟩, ?hq4f0, ?hq4f1, ?hq4f2, ?hq4f3, ?hq4f4, ?hq4f5⟩⟩
      case hq4f0 => omega
      case hq4f1 => (rw [take_ga _ (j + 1) (by rw [pcN_len]; omega), pcN_ga d i (by omega), hxt, bst_step hbb hkl9]; first | rw [if_pos (show cmpL (kD d x) (kD d b) < 0 from hb45)] | rw [if_neg (show ¬ cmpL (kD d x) (kD d b) < 0 from hb45)])
      case hq4f2 => assumption
      case hq4f3 => assumption
      case hq4f4 => exact hbo
      case hq4f5 => exact hbk
      case hq4m => omega
    ·replace hb34 := of_decide_eq_false hb34
     refine ws_exit rfl rfl ?_
     refine nm_sub [(0, _), (2, _), (3, _), (19, _), (20, _), (21, _), (6, _)] ⟨rfl, rfl, rfl, rfl, rfl, rfl, rfl, trivial⟩ ?_
     refine nm_thn ?_
     refine ws_region rfl ?_
     refine wlm 0 1 rfl rfl rfl rfl rfl rfl rfl ?_
     refine wlo 1 2 rfl rfl rfl (wo_run rfl rfl (run_loadN (us := [_, _]) rfl rfl Try.underlying108 rfl sz108 (S8.boxcs (i := 0) rfl ⟨rfl, rfl, trivial⟩)) ?_)
     refine wlo 2 3 rfl rfl rfl (wo_buildSlice1 (C := cdVw) (l := [_, _]) rfl rfl rfl rfl sl105 rfl rfl rfl rfl S8 ?_)
     intro gb4 w13 S14; clear S8
     refine wlo 3 4 rfl rfl rfl (wo_append1 (C := cdVw) (i := 2) (q := 0) (⟨(⟨pA, ((cfE d b).od).length, pc_⟩ : SlV), (⟨qA, ((cfE d b).co).length, qc⟩ : SlV)⟩ : Vw) rfl rfl rfl rfl rfl rfl rfl rfl sl105 S14 rfl rfl rfl (by show (_ + 1) * 48 ≤ _; first | omega | (simp only [lens]; omega)) ?_)
     intro vrv1 w14 S15; clear S14
     have S16 := S15.pick [1, 2, 3] [_, _, _] (by decide) ⟨rfl, rfl, rfl, trivial⟩; clear S15
     have hz1 := hz1.snoc hbo hbk
     refine wla 4 5 rfl rfl rfl rfl rfl rfl rfl ?_
     refine wl_end rfl ?_
     refine nm_blk ?_
     refine nm_sub [(0, _), (2, _), (3, _), (19, _), (20, _), (21, _)] ⟨rfl, rfl, rfl, rfl, rfl, rfl, trivial⟩ ?_
     refine nm_thn ?_
     refine ws_region rfl ?_
     refine wlo 0 1 rfl rfl rfl (wo_run rfl rfl (run_add rfl rfl rfl (by first | omega | (simp only [lens]; omega))) ?_)
     refine wlm 1 2 rfl rfl rfl rfl rfl rfl rfl ?_
     refine wl_end rfl ?_
     refine nm_lp ?_
     intro ax_ hax_
     refine ⟨_, ?hq5m, ⟨i + 1, _, (kz ++ [((cfE d b).od, (cfE d b).co)]), _, _, ((hle2.trans hle3).trans hle4), rfl, hax_.sub ⟨rfl, rfl, rfl, rfl, rfl, rfl, trivial⟩, S16.pick [1, 2] [_, _] (by decide) ⟨rfl, rfl, trivial⟩, ?hq5f0, ?hq5f1, ?hq5f2⟩⟩
     case hq5f0 => omega
     case hq5f1 => (rw [hkz]; obtain rfl : j = (ga (pcsL d) i).length - 1 := (by omega); exact ks_take hab (by omega) hbb)
     case hq5f2 => exact hz1
     case hq5m => omega
  ·replace hb22 := of_decide_eq_false hb22
   refine ws_exit rfl rfl ?_
   refine nm_sub [(0, _), (2, _), (3, _)] ⟨rfl, rfl, rfl, trivial⟩ ?_
   refine nm_thn ?_
   refine ws_seqN Form_n47 Form_n48 rfl rfl rfl ?_
   obtain rfl : i = (pcsL d).length := by omega
   have hkz2 : kz = ksD d := by rw [hkz, List.take_of_length_le (by rw [ksD_len]; exact Nat.le_refl _)]
   rw [hkz2] at hz1
   refine ws_region rfl ?_
   refine wlm 0 1 rfl rfl rfl rfl rfl rfl rfl ?_
   refine wlo 1 2 rfl rfl rfl (wo_c1 rfl rfl rfl rfl rfl rfl rfl cf64 S4 (i := 0) rfl (SortSt_w vrv ws (ksD d) hz1 (pcsL d).length (ksD_len d) (by omega) (fun i hi => ks9 hab hi) (S4.lend1 (i := 0) rfl)) ?_)
   rintro vw15 w15 _ _ - S17 ⟨rfl, hMX1, ws1, sg1, hz2, hsk1, rfl⟩; clear S4
   change SH _ _ _ [_, _] at S17
   rw [hMX1] at S17; clear hMX1
   refine wl_end rfl ?_
   refine nm_sub [(0, _), (2, _), (3, _)] ⟨rfl, rfl, rfl, trivial⟩ ?_
   refine nm_thn ?_
   refine ws_seqN Form_n49 Form_n50 rfl rfl rfl ?_
   obtain ⟨kσ, hkσ⟩ : ∃ kσ, kσ = (List.map (ga (ksD d)) sg1) := ⟨_, rfl⟩
   rw [← hkσ] at hz2
   obtain ⟨hσl, hσm⟩ := kσ_mem hab hsk1 hkσ
   have hfl := flatK_len hσl (fun i hi => (hσm i hi).1)
   have hfm := fun i hi x hx => flat_mem hσl (fun i hi => (hσm i hi).2) i hi (x := x) hx
   have hwsl := hz2.1
   refine ws_region rfl ?_
   refine wlm 0 1 rfl rfl rfl rfl rfl rfl rfl ?_
   refine wlo 1 2 rfl rfl rfl (wo_run rfl rfl (run_nilCheck rfl rfl) ?_)
   refine wlo 2 3 rfl rfl rfl (wo_run rfl rfl (run_fieldAddr rfl rfl Try.underlying93 rfl (ce24) (nf24)) ?_)
   refine wlo 3 4 rfl rfl rfl (wo_run rfl rfl (run_fieldAddr rfl rfl Try.underlying24 rfl (ce3) (nf3)) ?_)
   refine wlo 4 5 rfl rfl rfl (wo_run rfl rfl (run_load1 rfl rfl Try.underlying3 rfl (hsb.cell S17.um rfl)) ?_)
   refine wlo 5 6 rfl rfl rfl (wo_run rfl rfl (run_build (l := [_, _]) rfl rfl st24 rfl rfl) ?_)
   refine wlo 6 7 rfl rfl rfl (wo_alloc (l := [_, _]) rfl rfl rfl zr24 rfl S17 ?_)
   intro gb5 w16 S18; clear S17
   refine wlo 7 8 rfl rfl rfl (wo_storeB (i := 0) (us := [_, _]) (l' := [_, _]) (H' := [_, _, _]) rfl rfl S18 rfl rfl rfl rfl sz24 rfl rfl rfl rfl ?_)
   intro w17 S19; clear S18
   refine wl_end rfl ?_
   refine nm_sub [(0, _), (2, _), (3, _), (10, _)] ⟨rfl, rfl, rfl, rfl, trivial⟩ ?_
   refine nm_thn ?_
   refine ws_seqN Form_n51 Form_n52 rfl rfl rfl ?_
   refine ws_region rfl ?_
   refine wlo 0 1 rfl rfl rfl (wo_makeMap Int Int (Value.int .i64) (Value.int .i64) rfl rfl rfl S19 ?_)
   intro gm3 w18 S20; clear S19
   refine wlo 1 2 rfl rfl rfl (wo_alloc (l := [_]) rfl rfl rfl zr114 rfl S20 ?_)
   intro gb6 w19 S21; clear S20
   refine wlo 2 3 rfl rfl rfl (wo_storeB (i := 0) (us := [_]) (l' := [_]) (H' := [_, _, _, _, _]) rfl rfl S21 rfl rfl rfl rfl sz114 rfl rfl rfl rfl ?_)
   intro w20 S22; clear S21
   refine wl_end rfl ?_
   refine nm_sub [(0, _), (2, _), (3, _), (10, _), (11, _)] ⟨rfl, rfl, rfl, rfl, rfl, trivial⟩ ?_
   refine nm_thn ?_
   refine ws_seqN Form_n53 Form_n54 rfl rfl rfl ?_
   refine ws_region rfl ?_
   refine wlo 0 1 rfl rfl rfl (wo_run rfl rfl (run_makeFunc (vs := [_]) rfl rfl rfl rfl) ?_)
   refine wla 1 2 rfl rfl rfl rfl rfl rfl rfl ?_
   refine wl_end rfl ?_
   refine nm_sub [(0, _), (2, _), (3, _), (10, _), (12, _)] ⟨rfl, rfl, rfl, rfl, rfl, trivial⟩ ?_
   refine nm_thn ?_
   refine ws_seqN Form_n55 Form_n56 rfl rfl rfl ?_
   refine ws_seqN Form_n57 Form_n58 rfl rfl rfl ?_
   refine ws_region rfl ?_
   refine wlm 0 1 rfl rfl rfl rfl rfl rfl rfl ?_
   refine wlo 1 2 rfl rfl rfl (wo_run rfl rfl (run_lenR (C := cdVw) (i := 3) rfl rfl rfl rfl rfl rfl sl105 S22 rfl) ?_)
   refine wlm 2 3 rfl rfl rfl rfl rfl rfl rfl ?_
   refine wl_end rfl ?_
   refine nm_sub [(0, _), (2, _), (10, _), (12, _), (63, _), (64, _), (65, _)] ⟨rfl, rfl, rfl, rfl, rfl, rfl, rfl, trivial⟩ ?_
   refine nm_thn ?_
   refine ws_blockN Form_n59 4 rfl rfl rfl ?_
   have S23 := S22.nilrow cdCr; clear S22
   refine ws_loopE (fun mx_ ax_ wx_ => ∃ (i4 : Nat) (rn : Rn) (es : List (Int × Int)) (vro : Value) (M6 : Hp), M2.le M6 ∧ mx_ = (pcsL d).length - i4 ∧ Env 111 [(0, .pointer (some ⟨gsh, 0, none⟩)), (2, .pointer (some ⟨gb1, 0, none⟩)), (10, .pointer (some ⟨gb5, 0, none⟩)), (12, .func (.func 67) #[] [.pointer (some ⟨gb6, 0, none⟩)].toArray), (63, vrv), (64, .int .i64 (ws1.length : Int)), (65, .int .i64 (i4 : Int))] ax_ ∧ SH wx_ M6 X [Rs.row cdCr vro rn.cs, Rs.box gb6 114 [.map (some gm3)], Rs.mp (Value.int .i64) (Value.int .i64) gm3 es, Rs.box gb5 24 [vro, .int .i64 d.loops], Rs.row cdVw vrv ws1, Rs.box gb1 24 [.slice none 0 0, .int .i64 0]] ∧ i4 ≤ (pcsL d).length ∧ rn = rnF d ((kσ.take i4).flatMap Prod.fst) ∧ MpR d es (rn.nm, rn.nx)) rfl ?_ ?_
   ·intro ax_ hax_
    refine ⟨_, ⟨0, (rnF d []), [], _, _, Hp.le_refl _, rfl, hax_.sub ⟨rfl, rfl, rfl, rfl, rfl, rfl, rfl, trivial⟩, S23.pick [0, 1, 2, 3, 4, 5] [_, _, _, _, _, _] (by decide) ⟨rfl, rfl, rfl, rfl, rfl, rfl, trivial⟩, ?hq6f0, ?hq6f1, ?hq6f2⟩⟩
    case hq6f0 => omega
    case hq6f1 => rfl
    case hq6f2 => exact MpR.start d
   ·rintro m4 a3 w21 ⟨i4, rn, es, vro, M6, hle6, rfl, he3, S24, hi4, hrn, hmr⟩
    clear S23
    refine ws_in he3 (c := Form_n60) rfl ?_
    clear he3 a3
    replace hsb := hsb.mono (Hp.un_mono hle6 S24.mx)
    replace hsc := hsc.mono (Hp.un_mono hle6 S24.mx)
    replace hsi := hsi.mono (Hp.un_mono hle6 S24.mx)
    replace hso := hso.mono (Hp.un_mono hle6 S24.mx)
    replace hr1 := hr1.mono hle6
    replace hd1 := hd1.mono hle6
    replace hz1 := hz1.mono hle6
    replace hz2 := hz2.mono hle6
    have hfl4 := hfl i4 hi4
    have hσm4 := fun h => hσm i4 h
    have hcsl : rn.cs.length ≤ 256 := by
     rw [hrn, (rnF_ok hab fun x hx => hfm i4 hi4 x hx).2.2]
     exact Nat.le_trans hfl4 (Nat.mul_le_mul (by omega : d.crs.length ≤ 16) (by omega : i4 ≤ 16))
    refine ws_seqN Form_n61 Form_n62 rfl rfl rfl ?_
    refine ws_region rfl ?_
    refine wlo 0 1 rfl rfl rfl (wo_run rfl rfl (run_lss rfl rfl rfl) ?_)
    refine wl_end rfl ?_
    refine nm_thn ?_
    refine ws_seqN Form_n63 Form_n64 rfl rfl rfl ?_
    refine ws_condN Form_n65 Form_n66 rfl rfl rfl rfl (fun hb66 => ?_) (fun hb66 => ?_)
    ·replace hb66 := of_decide_eq_true hb66
     have hσmq := hσm4 (by omega)
     refine ws_skip rfl ?_
     refine nm_sub [(0, _), (2, _), (10, _), (12, _), (63, _), (64, _), (65, _)] ⟨rfl, rfl, rfl, rfl, rfl, rfl, rfl, trivial⟩ ?_
     refine nm_thn ?_
     refine ws_seqN Form_n67 Form_n68 rfl rfl rfl ?_
     refine ws_blockN Form_n69 5 rfl rfl rfl ?_
     refine ws_seqN Form_n70 Form_n71 rfl rfl rfl ?_
     refine ws_region rfl ?_
     refine wlo 0 1 rfl rfl rfl (wo_run rfl rfl (run_indexR (C := cdVw) (i := 4) i4 rfl rfl rfl sl105 S24 rfl (by first | rfl | omega) (by first | omega | (simp only [lens]; omega))) ?_)
     obtain ⟨hn2, hr8, hn3, hr9⟩ := hz2.2 i4 (by first | omega | (simp only [lens]; omega))
     have rmhr8 : ((ga kσ i4).1).length * 8 ≤ 140737488355328 := hr8.room
     have rmhr9 : ((ga kσ i4).2).length * 8 ≤ 140737488355328 := hr9.room
     refine wlo 1 2 rfl rfl rfl (wo_run rfl rfl (run_loadN (us := [_, _]) rfl rfl Try.underlying108 rfl sz108 (S24.rowcs (i := 4) (e := i4) (j := 0) rfl (by first | omega | (simp only [lens]; omega)) ⟨congrArg (fun n => some (Value.slice _ n _)) hn2, congrArg (fun n => some (Value.slice _ n _)) hn3, trivial⟩)) ?_)
     refine wlo 2 3 rfl rfl rfl (wo_alloc (l := [_, _]) rfl rfl rfl zr108 rfl S24 ?_)
     intro gb7 w22 S25; clear S24
     refine wlo 3 4 rfl rfl rfl (wo_storeB (i := 0) (us := [_, _]) (l' := [_, _]) (H' := [_, _, _, _, _, _, _]) rfl rfl S25 rfl rfl rfl rfl sz108 rfl rfl rfl rfl ?_)
     intro w23 S26; clear S25
     refine wl_end rfl ?_
     refine nm_sub [(0, _), (2, _), (10, _), (12, _), (63, _), (64, _), (65, _), (14, _)] ⟨rfl, rfl, rfl, rfl, rfl, rfl, rfl, rfl, trivial⟩ ?_
     refine nm_thn ?_
     refine ws_seqN Form_n72 Form_n73 rfl rfl rfl ?_
     refine ws_region rfl ?_
     refine wlo 0 1 rfl rfl rfl (wo_run rfl rfl (run_fieldAddr rfl rfl Try.underlying108 rfl (ce33) (nf33)) ?_)
     refine wlo 1 2 rfl rfl rfl (wo_run rfl rfl (run_load1 rfl rfl Try.underlying33 rfl (S26.boxc (i := 0) rfl rfl)) ?_)
     refine wlo 2 3 rfl rfl rfl (wo_run rfl rfl (run_len rfl rfl rfl rfl rfl rfl Try.underlying33) ?_)
     refine wlm 3 4 rfl rfl rfl rfl rfl rfl rfl ?_
     refine wl_end rfl ?_
     refine nm_sub [(0, _), (2, _), (10, _), (12, _), (63, _), (64, _), (65, _), (70, _), (71, _), (72, _)] ⟨rfl, rfl, rfl, rfl, rfl, rfl, rfl, rfl, rfl, rfl, trivial⟩ ?_
     refine nm_thn ?_
     refine ws_blockN Form_n74 6 rfl rfl rfl ?_
     refine ws_loopE (fun mx_ ax_ wx_ => ∃ (k : Nat) (rn2 : Rn) (es2 : List (Int × Int)) (vro2 : Value) (M7 : Hp), M6.le M7 ∧ mx_ = (ga kσ i4).1.length - k ∧ Env 111 [(0, .pointer (some ⟨gsh, 0, none⟩)), (2, .pointer (some ⟨gb1, 0, none⟩)), (10, .pointer (some ⟨gb5, 0, none⟩)), (12, .func (.func 67) #[] [.pointer (some ⟨gb6, 0, none⟩)].toArray), (63, vrv), (64, .int .i64 (ws1.length : Int)), (65, .int .i64 (i4 : Int)), (70, .slice ((ga ws1 i4).o.A) ((ga kσ i4).1).length ((ga ws1 i4).o.c)), (71, .int .i64 (((ga kσ i4).1).length : Int)), (72, .int .i64 (k : Int))] ax_ ∧ SH wx_ M7 X [Rs.row cdCr vro2 rn2.cs, Rs.box gb6 114 [.map (some gm3)], Rs.mp (Value.int .i64) (Value.int .i64) gm3 es2, Rs.box gb5 24 [vro2, .int .i64 d.loops], Rs.row cdVw vrv ws1, Rs.box gb1 24 [.slice none 0 0, .int .i64 0]] ∧ k ≤ (ga kσ i4).1.length ∧ rn2 = rnF d ((kσ.take i4).flatMap Prod.fst ++ (ga kσ i4).1.take k) ∧ MpR d es2 (rn2.nm, rn2.nx)) rfl ?_ ?_
     ·intro ax_ hax_
      refine ⟨_, ⟨0, rn, es, _, _, Hp.le_refl _, rfl, hax_.sub ⟨rfl, rfl, rfl, rfl, rfl, rfl, rfl, rfl, rfl, rfl, trivial⟩, S26.pick [1, 2, 3, 4, 5, 6] [_, _, _, _, _, _] (by decide) ⟨rfl, rfl, rfl, rfl, rfl, rfl, trivial⟩, ?hq7f0, ?hq7f1, ?hq7f2⟩⟩
      case hq7f0 => omega
      case hq7f1 => (rw [List.take_zero, List.append_nil]; exact hrn)
      case hq7f2 => exact hmr
     ·rintro m5 a4 w24 ⟨k, rn2, es2, vro2, M7, hle7, rfl, he4, S27, hk, hrn2, hmr2⟩
      clear S26
      refine ws_in he4 (c := Form_n75) rfl ?_
      clear he4 a4
      replace hsb := hsb.mono (Hp.un_mono hle7 S27.mx)
      replace hsc := hsc.mono (Hp.un_mono hle7 S27.mx)
      replace hsi := hsi.mono (Hp.un_mono hle7 S27.mx)
      replace hso := hso.mono (Hp.un_mono hle7 S27.mx)
      replace hr1 := hr1.mono hle7
      replace hd1 := hd1.mono hle7
      replace hz1 := hz1.mono hle7
      replace hz2 := hz2.mono hle7
      replace hr8 := hr8.mono hle7
      replace hr9 := hr9.mono hle7
      obtain ⟨hri, hnx, hcs⟩ : RnI d (rn2.nm, rn2.nx) ∧ rn2.nx ≤ 1 + 4 * (((kσ.take i4).flatMap Prod.fst ++ (ga kσ i4).1.take k).length : Int) ∧ rn2.cs.length = ((kσ.take i4).flatMap Prod.fst ++ (ga kσ i4).1.take k).length := by
       rw [hrn2]
       exact rnF_ok hab fun x hx => by
        rcases List.mem_append.1 hx with hx | hx
        ·exact hfm i4 hi4 x hx
        ·exact (hσmq.2 x (List.mem_of_mem_take hx)).1
      rw [List.length_append, List.length_take] at hnx hcs
      have h16 : d.crs.length * i4 ≤ 16 * 16 := Nat.mul_le_mul (by omega) (by omega)
      refine ws_seqN Form_n76 Form_n77 rfl rfl rfl ?_
      refine ws_region rfl ?_
      refine wlo 0 1 rfl rfl rfl (wo_run rfl rfl (run_lss rfl rfl rfl) ?_)
      refine wl_end rfl ?_
      refine nm_thn ?_
      refine ws_seqN Form_n78 Form_n79 rfl rfl rfl ?_
      refine ws_condN Form_n80 Form_n81 rfl rfl rfl rfl (fun hb73 => ?_) (fun hb73 => ?_)
      ·replace hb73 := of_decide_eq_true hb73
       refine ws_skip rfl ?_
       refine nm_sub [(0, _), (2, _), (10, _), (12, _), (63, _), (64, _), (65, _), (70, _), (71, _), (72, _)] ⟨rfl, rfl, rfl, rfl, rfl, rfl, rfl, rfl, rfl, rfl, trivial⟩ ?_
       refine nm_thn ?_
       refine ws_seqN Form_n82 Form_n83 rfl rfl rfl ?_
       refine ws_blockN Form_n84 7 rfl rfl rfl ?_
       refine ws_seqN Form_n85 Form_n86 rfl rfl rfl ?_
       refine ws_region rfl ?_
       refine wlo 0 1 rfl rfl rfl (wo_run rfl rfl (run_indexM (C := cdInt) k rfl rfl rfl sl33 (by first | rfl | omega) hr8 (by first | omega | (simp only [lens]; omega))) ?_)
       refine wlo 1 2 rfl rfl rfl (wo_run rfl rfl (run_load1 rfl rfl Try.underlying3 rfl (hr8.cell S27.m (i := k) (by first | omega | (simp only [lens]; omega)) 0 rfl rfl)) ?_)
       refine wla 2 3 rfl rfl rfl rfl rfl rfl rfl ?_
       refine wl_end rfl ?_
       refine nm_sub [(0, _), (2, _), (10, _), (12, _), (63, _), (64, _), (65, _), (70, _), (71, _), (72, _), (16, _)] ⟨rfl, rfl, rfl, rfl, rfl, rfl, rfl, rfl, rfl, rfl, rfl, trivial⟩ ?_
       refine nm_thn ?_
       refine ws_seqN Form_n87 Form_n88 rfl rfl rfl ?_
       obtain ⟨hc1, hc2⟩ := hσmq.2 _ (ga_mem (show k < (ga kσ i4).1.length by omega))
       obtain ⟨c, hcn⟩ : ∃ c : Nat, ga (ga kσ i4).1 k = (c : Int) := ⟨(ga (ga kσ i4).1 k).toNat, by omega⟩
       have hcl : c < d.crs.length := by omega
       clear hc1 hc2
       refine ws_eq 16 (.int .i64 (c : Int)) rfl (int_eq hcn) ?_
       refine ws_region rfl ?_
       refine wlm 0 1 rfl rfl rfl rfl rfl rfl rfl ?_
       refine wlo 1 2 rfl rfl rfl (wo_run rfl rfl (run_nilCheck rfl rfl) ?_)
       refine wlo 2 3 rfl rfl rfl (wo_run rfl rfl (run_fieldAddr rfl rfl Try.underlying93 rfl (ce24) (nf24)) ?_)
       refine wlo 3 4 rfl rfl rfl (wo_run rfl rfl (run_fieldAddr rfl rfl Try.underlying24 rfl (ce22) (nf22)) ?_)
       refine wlo 4 5 rfl rfl rfl (wo_run rfl rfl (run_load1 rfl rfl Try.underlying22 rfl (hsb.cell S27.um rfl)) ?_)
       refine wlm 5 6 rfl rfl rfl rfl rfl rfl rfl ?_
       refine wlo 6 7 rfl rfl rfl (wo_run rfl rfl (run_indexM (C := cdCr) c rfl rfl rfl sl22 (by first | rfl | omega) hsc (by first | omega | (simp only [lens]; omega))) ?_)
       refine wlo 7 8 rfl rfl rfl (wo_run rfl rfl (run_loadN (us := [_, _, _, _, _]) rfl rfl Try.underlying59 rfl sz59 (hsc.cellsAt S27.um (e := c) (by first | omega | (simp only [lens]; omega)) (j := 0) ⟨rfl, rfl, rfl, rfl, rfl, trivial⟩)) ?_)
       refine wlo 8 9 rfl rfl rfl (wo_alloc (l := [_, _, _, _, _]) rfl rfl rfl zr59 rfl S27 ?_)
       intro gb8 w25 S28; clear S27
       refine wlo 9 10 rfl rfl rfl (wo_storeB (i := 0) (us := [_, _, _, _, _]) (l' := [_, _, _, _, _]) (H' := [_, _, _, _, _, _, _]) rfl rfl S28 rfl rfl rfl rfl sz59 rfl rfl rfl rfl ?_)
       intro w26 S29; clear S28
       refine wl_end rfl ?_
       refine nm_sub [(0, _), (2, _), (10, _), (12, _), (63, _), (64, _), (65, _), (70, _), (71, _), (72, _), (17, _)] ⟨rfl, rfl, rfl, rfl, rfl, rfl, rfl, rfl, rfl, rfl, rfl, trivial⟩ ?_
       refine nm_thn ?_
       have hrk := fun k h => rnC_ok hab hcl hri k h
       have hsd0 : 1 ≤ (ga d.crs c).a ∧ (ga d.crs c).a ≤ 2 * (d.crs.length : Int) := arcAt_bd hab hcl (k := 0) (by omega)
       have hsd1 : 1 ≤ (ga d.crs c).b ∧ (ga d.crs c).b ≤ 2 * (d.crs.length : Int) := arcAt_bd hab hcl (k := 1) (by omega)
       have hsd2 : 1 ≤ (ga d.crs c).c ∧ (ga d.crs c).c ≤ 2 * (d.crs.length : Int) := arcAt_bd hab hcl (k := 2) (by omega)
       have hsd3 : 1 ≤ (ga d.crs c).d ∧ (ga d.crs c).d ≤ 2 * (d.crs.length : Int) := arcAt_bd hab hcl (k := 3) (by omega)
       have hq0 := (hrk 0 (by omega)).2.2.2.1
       have hq1 := (hrk 1 (by omega)).2.2.2.1
       have hq2 := (hrk 2 (by omega)).2.2.2.1
       have hq3 := (hrk 3 (by omega)).2.2.2.1
       dsimp only at hq0 hq1 hq2 hq3
       have S30 := S29.pick [2, 3, 0, 1, 4, 5, 6] [_, _, _, _, _, _, _] (by decide) ⟨rfl, rfl, rfl, rfl, rfl, rfl, rfl, trivial⟩; clear S29
       refine ws_drawN [_, _] [_, _, _, _, _] rfl (by kernel_rfl) S30 25 rfl ?_
       clear S30
       change WA _ _ _ _ _ _ _ _ _ _ _ _ [_, _, _, _, _, _, _]
       refine wa_takeP (i := 0) (d := 84) 24 rfl (by kernel_rfl) (by kernel_rfl) (by kernel_rfl) rfl rfl rfl (fun w27 => run_fieldAddr rfl rfl Try.underlying24 rfl (ce22) (nf22)) ?_
       refine wa_take (i := 1) (d := 85) 23 rfl (by kernel_rfl) (by kernel_rfl) (by kernel_rfl) rfl rfl rfl (fun M9 N2 w28 hle9 S32 => .inl (run_load1 rfl rfl Try.underlying22 rfl (S32.suf.boxc (i := 2) rfl rfl))) ?_
       refine wa_takeP (i := 2) (d := 86) 22 rfl (by kernel_rfl) (by kernel_rfl) (by kernel_rfl) rfl rfl rfl (fun w29 => run_move rfl rfl) ?_
       refine wa_takeP (i := 3) (d := 87) 21 rfl (by kernel_rfl) (by kernel_rfl) (by kernel_rfl) rfl rfl rfl (fun w30 => run_fieldAddr rfl rfl Try.underlying59 rfl (ce3) (nf3)) ?_
       refine wa_take (i := 4) (d := 88) 20 rfl (by kernel_rfl) (by kernel_rfl) (by kernel_rfl) rfl rfl rfl (fun M12 N5 w31 hle12 S35 => .inl (run_load1 rfl rfl Try.underlying3 rfl (S35.suf.boxc (i := 0) rfl rfl))) ?_
       refine wa_takeP (i := 6) (d := 90) 19 rfl (by kernel_rfl) (by kernel_rfl) (by kernel_rfl) rfl rfl rfl (fun w33 => run_move rfl rfl) ?_
       refine wa_takeP (i := 7) (d := 91) 18 rfl (by kernel_rfl) (by kernel_rfl) (by kernel_rfl) rfl rfl rfl (fun w35 => run_fieldAddr rfl rfl Try.underlying59 rfl (ce3) (nf3)) ?_
       refine wa_take (i := 8) (d := 92) 17 rfl (by kernel_rfl) (by kernel_rfl) (by kernel_rfl) rfl rfl rfl (fun M18 N11 w37 hle18 S41 => .inl (run_load1 rfl rfl Try.underlying3 rfl (S41.suf.boxc (i := 0) rfl rfl))) ?_
       refine wa_takeP (i := 10) (d := 94) 16 rfl (by kernel_rfl) (by kernel_rfl) (by kernel_rfl) rfl rfl rfl (fun w39 => run_move rfl rfl) ?_
       refine wa_takeP (i := 11) (d := 95) 15 rfl (by kernel_rfl) (by kernel_rfl) (by kernel_rfl) rfl rfl rfl (fun w41 => run_fieldAddr rfl rfl Try.underlying59 rfl (ce3) (nf3)) ?_
       refine wa_take (i := 12) (d := 96) 14 rfl (by kernel_rfl) (by kernel_rfl) (by kernel_rfl) rfl rfl rfl (fun M24 N17 w43 hle24 S47 => .inl (run_load1 rfl rfl Try.underlying3 rfl (S47.suf.boxc (i := 0) rfl rfl))) ?_
       refine wa_takeP (i := 14) (d := 98) 13 rfl (by kernel_rfl) (by kernel_rfl) (by kernel_rfl) rfl rfl rfl (fun w45 => run_move rfl rfl) ?_
       refine wa_takeP (i := 15) (d := 99) 12 rfl (by kernel_rfl) (by kernel_rfl) (by kernel_rfl) rfl rfl rfl (fun w47 => run_fieldAddr rfl rfl Try.underlying59 rfl (ce3) (nf3)) ?_
       refine wa_take (i := 16) (d := 100) 11 rfl (by kernel_rfl) (by kernel_rfl) (by kernel_rfl) rfl rfl rfl (fun M30 N23 w49 hle30 S53 => .inl (run_load1 rfl rfl Try.underlying3 rfl (S53.suf.boxc (i := 0) rfl rfl))) ?_
       refine wa_takeP (i := 18) (d := 102) 10 rfl (by kernel_rfl) (by kernel_rfl) (by kernel_rfl) rfl rfl rfl (fun w51 => run_fieldAddr rfl rfl Try.underlying59 rfl (ce4) (nf4)) ?_
       refine wa_take (i := 19) (d := 103) 9 rfl (by kernel_rfl) (by kernel_rfl) (by kernel_rfl) rfl rfl rfl (fun M34 N27 w53 hle34 S57 => .inl (run_load1 rfl rfl Try.underlying4 rfl (S57.suf.boxc (i := 0) rfl rfl))) ?_
       refine wa_only (i := 5) 8 rfl (by kernel_rfl) rfl rfl (fun w55 S59 => ?_)
       have S60 := S59.pick [0, 1, 2, 3, 4, 5, 6] [_, _, _, _, _, _, _] (by decide) ⟨rfl, rfl, rfl, rfl, rfl, rfl, rfl, trivial⟩; clear S59
       have S61 : SH _ _ _ (Rs.bun [_, _] :: [_, _, _, _, _]) := SH.bunC (A := [_, _]) (B := [_, _, _, _, _]) S60; clear S60
       have S62 : SH _ _ _ [_, _, _, _, _, _] := S61.less (i := 0) rfl
       have hcall1 := FArc_i (ga d.crs c).a d es2 (rnC d c (rn2.nm, rn2.nx) 0) hmr2 (hrk 0 (by omega)).1 hsd0 (by omega) (S61.lend1 (i := 0) rfl); clear S62
       refine (wo_c1F (i := 0) rfl rfl rfl rfl rfl rfl rfl cf67 S61 rfl hcall1 ?_)
       intro vw56 w56 M36 rw56 hle36 S63 hR1; clear S61
       obtain ⟨hMX2, hR1⟩ := hR1
       rw [hMX2] at S63
       obtain ⟨esw56, rfl, hmrw56, rfl⟩ := hR1
       replace S63 : SH _ _ _ (Rs.bun [_, _] :: [_, _, _, _, _]) := S63
       have S64 : SH _ _ _ [_, _, _, _, _, _, _] := SH.unbunC (A := [_, _]) (B := [_, _, _, _, _]) S63; clear S63
       have hmq1 : MpR d esw56 (rnC d c (rn2.nm, rn2.nx) 1) := hmrw56
       clear hmrw56
       refine LeftW.grow [_, _] (Hp.le_refl _) S64 ?_; clear S64
       change WA _ _ _ _ _ _ _ _ _ _ _ _ [_, _, _, _, _, _, _]
       refine wa_only (i := 9) 7 rfl (by kernel_rfl) rfl rfl (fun w58 S66 => ?_)
       have S67 := S66.pick [0, 1, 2, 3, 4, 5, 6] [_, _, _, _, _, _, _] (by decide) ⟨rfl, rfl, rfl, rfl, rfl, rfl, rfl, trivial⟩; clear S66
       have S68 : SH _ _ _ (Rs.bun [_, _] :: [_, _, _, _, _]) := SH.bunC (A := [_, _]) (B := [_, _, _, _, _]) S67; clear S67
       have S69 : SH _ _ _ [_, _, _, _, _, _] := S68.less (i := 0) rfl
       have hcall2 := FArc_i (ga d.crs c).b d esw56 (rnC d c (rn2.nm, rn2.nx) 1) hmq1 (hrk 1 (by omega)).1 hsd1 (by omega) (S68.lend1 (i := 0) rfl); clear S69
       refine (wo_c1F (i := 0) rfl rfl rfl rfl rfl rfl rfl cf67 S68 rfl hcall2 ?_)
       intro vw59 w59 M38 rw59 hle38 S70 hR2; clear S68
       obtain ⟨hMX3, hR2⟩ := hR2
       rw [hMX3] at S70
       obtain ⟨esw59, rfl, hmrw59, rfl⟩ := hR2
       replace S70 : SH _ _ _ (Rs.bun [_, _] :: [_, _, _, _, _]) := S70
       have S71 : SH _ _ _ [_, _, _, _, _, _, _] := SH.unbunC (A := [_, _]) (B := [_, _, _, _, _]) S70; clear S70
       have hmq2 : MpR d esw59 (rnC d c (rn2.nm, rn2.nx) 2) := hmrw59
       clear hmrw59
       refine LeftW.grow [_, _] (Hp.le_refl _) S71 ?_; clear S71
       change WA _ _ _ _ _ _ _ _ _ _ _ _ [_, _, _, _, _, _, _]
       refine wa_only (i := 13) 6 rfl (by kernel_rfl) rfl rfl (fun w61 S73 => ?_)
       have S74 := S73.pick [0, 1, 2, 3, 4, 5, 6] [_, _, _, _, _, _, _] (by decide) ⟨rfl, rfl, rfl, rfl, rfl, rfl, rfl, trivial⟩; clear S73
       have S75 : SH _ _ _ (Rs.bun [_, _] :: [_, _, _, _, _]) := SH.bunC (A := [_, _]) (B := [_, _, _, _, _]) S74; clear S74
       have S76 : SH _ _ _ [_, _, _, _, _, _] := S75.less (i := 0) rfl
       have hcall3 := FArc_i (ga d.crs c).c d esw59 (rnC d c (rn2.nm, rn2.nx) 2) hmq2 (hrk 2 (by omega)).1 hsd2 (by omega) (S75.lend1 (i := 0) rfl); clear S76
       refine (wo_c1F (i := 0) rfl rfl rfl rfl rfl rfl rfl cf67 S75 rfl hcall3 ?_)
       intro vw62 w62 M40 rw62 hle40 S77 hR3; clear S75
       obtain ⟨hMX4, hR3⟩ := hR3
       rw [hMX4] at S77
       obtain ⟨esw62, rfl, hmrw62, rfl⟩ := hR3
       replace S77 : SH _ _ _ (Rs.bun [_, _] :: [_, _, _, _, _]) := S77
       have S78 : SH _ _ _ [_, _, _, _, _, _, _] := SH.unbunC (A := [_, _]) (B := [_, _, _, _, _]) S77; clear S77
       have hmq3 : MpR d esw62 (rnC d c (rn2.nm, rn2.nx) 3) := hmrw62
       clear hmrw62
       refine LeftW.grow [_, _] (Hp.le_refl _) S78 ?_; clear S78
       change WA _ _ _ _ _ _ _ _ _ _ _ _ [_, _, _, _, _, _, _]
       refine wa_only (i := 17) 5 rfl (by kernel_rfl) rfl rfl (fun w64 S80 => ?_)
       have S81 := S80.pick [0, 1, 2, 3, 4, 5, 6] [_, _, _, _, _, _, _] (by decide) ⟨rfl, rfl, rfl, rfl, rfl, rfl, rfl, trivial⟩; clear S80
       have S82 : SH _ _ _ (Rs.bun [_, _] :: [_, _, _, _, _]) := SH.bunC (A := [_, _]) (B := [_, _, _, _, _]) S81; clear S81
       have S83 : SH _ _ _ [_, _, _, _, _, _] := S82.less (i := 0) rfl
       have hcall4 := FArc_i (ga d.crs c).d d esw62 (rnC d c (rn2.nm, rn2.nx) 3) hmq3 (hrk 3 (by omega)).1 hsd3 (by omega) (S82.lend1 (i := 0) rfl); clear S83
       refine (wo_c1F (i := 0) rfl rfl rfl rfl rfl rfl rfl cf67 S82 rfl hcall4 ?_)
       intro vw65 w65 M42 rw65 hle42 S84 hR4; clear S82
       obtain ⟨hMX5, hR4⟩ := hR4
       rw [hMX5] at S84
       obtain ⟨esw65, rfl, hmrw65, rfl⟩ := hR4
       replace S84 : SH _ _ _ (Rs.bun [_, _] :: [_, _, _, _, _]) := S84
       have S85 : SH _ _ _ [_, _, _, _, _, _, _] := SH.unbunC (A := [_, _]) (B := [_, _, _, _, _]) S84; clear S84
       have hmq4 : MpR d esw65 (rnC d c (rn2.nm, rn2.nx) 4) := hmrw65
       clear hmrw65
       refine LeftW.grow [_, _] (Hp.le_refl _) S85 ?_; clear S85
       change WA _ _ _ _ _ _ _ _ _ _ _ _ [_, _, _, _, _, _, _]
       refine wa_take (i := 20) (d := 104) 4 rfl (by kernel_rfl) (by kernel_rfl) (by kernel_rfl) rfl rfl rfl (fun M43 N32 w66 hle43 S86 => .inl (run_build (l := [_, _, _, _, _]) rfl rfl st59 rfl rfl)) ?_
       refine wa_only (i := 21) 3 rfl (by kernel_rfl) rfl rfl (fun w68 S88 => ?_)
       refine (wo_buildSlice1 (C := cdCr) (l := [_, _, _, _, _]) rfl rfl rfl rfl sl22 rfl rfl rfl rfl S88 ?_)
       intro gb9 w69 S89; clear S88
       refine LeftW.grow [_, _, _] (Hp.le_refl _) S89 ?_; clear S89
       change WA _ _ _ _ _ _ _ _ _ _ _ _ [_, _, _, _, _, _, _, _]
       refine wa_only (i := 22) 2 rfl (by kernel_rfl) rfl rfl (fun w71 S91 => ?_)
       refine (wo_append1 (C := cdCr) (i := 4) (q := 0) (⟨ga (rnC d c (rn2.nm, rn2.nx) 1).1 (ga d.crs c).a.toNat, ga (rnC d c (rn2.nm, rn2.nx) 2).1 (ga d.crs c).b.toNat, ga (rnC d c (rn2.nm, rn2.nx) 3).1 (ga d.crs c).c.toNat, ga (rnC d c (rn2.nm, rn2.nx) 4).1 (ga d.crs c).d.toNat, (ga d.crs c).plus⟩ : Cr) rfl rfl rfl rfl rfl rfl rfl rfl sl22 S91 rfl rfl rfl (by show (_ + 1) * 40 ≤ _; first | omega | (simp only [lens]; omega)) ?_)
       intro vro1 w72 S92; clear S91
       have S93 := S92.pick [1, 2, 3, 4, 5, 6, 7] [_, _, _, _, _, _, _] (by decide) ⟨rfl, rfl, rfl, rfl, rfl, rfl, rfl, trivial⟩; clear S92
       refine LeftW.turn (by kernel_rfl) S93 ?_; clear S93
       change WA _ _ _ _ _ _ _ _ _ _ _ _ [_, _, _, _, _, _, _]
       refine wa_takeP (i := 23) (d := 107) 1 rfl (by kernel_rfl) (by kernel_rfl) (by kernel_rfl) rfl rfl rfl (fun w73 => run_fieldAddr rfl rfl Try.underlying24 rfl (ce22) (nf22)) ?_
       refine wa_only (i := 24) 0 rfl (by kernel_rfl) rfl rfl (fun w75 S96 => ?_)
       refine (wo_storeB (i := 4) (us := [_]) (l' := [_, _]) (H' := [_, _, _, _, _, _, _]) rfl rfl S96 rfl rfl rfl (S96.cells1 (i := 3) rfl) sz22 rfl (ones_cons (S96.one (i := 3) rfl) rfl) rfl rfl ?_)
       intro w76 S97; clear S96
       refine LeftW.turn (by kernel_rfl) S97 ?_; clear S97
       change WA _ _ _ _ _ _ _ _ _ _ _ _ [_, _, _, _, _, _, _]
       refine wa_end (by kernel_rfl) (fun w77 S98 => ?_)
       refine nm_blk ?_
       refine nm_sub [(0, _), (2, _), (10, _), (12, _), (63, _), (64, _), (65, _), (70, _), (71, _), (72, _)] ⟨rfl, rfl, rfl, rfl, rfl, rfl, rfl, rfl, rfl, rfl, trivial⟩ ?_
       refine nm_thn ?_
       have hcj := (hrk 4 (by omega)).2.2.1
       have hj0 : ga (rnC d c (rn2.nm, rn2.nx) 1).1 (ga d.crs c).a.toNat = ga (rnC d c (rn2.nm, rn2.nx) 4).1 (ga d.crs c).a.toNat := (hcj 0 (by omega)).2
       have hj1 : ga (rnC d c (rn2.nm, rn2.nx) 2).1 (ga d.crs c).b.toNat = ga (rnC d c (rn2.nm, rn2.nx) 4).1 (ga d.crs c).b.toNat := (hcj 1 (by omega)).2
       have hj2 : ga (rnC d c (rn2.nm, rn2.nx) 3).1 (ga d.crs c).c.toNat = ga (rnC d c (rn2.nm, rn2.nx) 4).1 (ga d.crs c).c.toNat := (hcj 2 (by omega)).2
       have hrc1 : rn2.cs ++ [(⟨ga (rnC d c (rn2.nm, rn2.nx) 1).1 (ga d.crs c).a.toNat, ga (rnC d c (rn2.nm, rn2.nx) 2).1 (ga d.crs c).b.toNat, ga (rnC d c (rn2.nm, rn2.nx) 3).1 (ga d.crs c).c.toNat, ga (rnC d c (rn2.nm, rn2.nx) 4).1 (ga d.crs c).d.toNat, (ga d.crs c).plus⟩ : Cr)] = (rnS d rn2 (c : Int)).cs := by (rw [hj0, hj1, hj2]; unfold rnS crN; rw [Int.toNat_natCast])
       rw [hrc1] at S98; clear hrc1
       have hmrX : MpR d esw65 ((rnS d rn2 (c : Int)).nm, (rnS d rn2 (c : Int)).nx) := hmq4
       refine ws_region rfl ?_
       refine wlo 0 1 rfl rfl rfl (wo_run rfl rfl (run_add rfl rfl rfl (by first | omega | (simp only [lens]; omega))) ?_)
       refine wlm 1 2 rfl rfl rfl rfl rfl rfl rfl ?_
       refine wl_end rfl ?_
       refine nm_lp ?_
       intro ax_ hax_
       refine ⟨_, ?hq8m, ⟨k + 1, (rnS d rn2 (c : Int)), esw65, _, _, (hle7), rfl, hax_.sub ⟨rfl, rfl, rfl, rfl, rfl, rfl, rfl, rfl, rfl, rfl, trivial⟩, S98.pick [3, 0, 1, 4, 5, 6] [_, _, _, _, _, _] (by decide) ⟨rfl, rfl, rfl, rfl, rfl, rfl, trivial⟩, ?hq8f0, ?hq8f1, ?hq8f2⟩⟩
       case hq8f0 => omega
       case hq8f1 => (rw [take_ga _ k (by omega), hcn, ← List.append_assoc, rnF_snoc, ← hrn2])
       case hq8f2 => assumption
       case hq8m => omega
      ·replace hb73 := of_decide_eq_false hb73
       refine ws_exit rfl rfl ?_
       refine nm_blk ?_
       refine nm_sub [(0, _), (2, _), (10, _), (12, _), (63, _), (64, _), (65, _)] ⟨rfl, rfl, rfl, rfl, rfl, rfl, rfl, trivial⟩ ?_
       refine nm_thn ?_
       refine ws_region rfl ?_
       refine wlo 0 1 rfl rfl rfl (wo_run rfl rfl (run_add rfl rfl rfl (by first | omega | (simp only [lens]; omega))) ?_)
       refine wlm 1 2 rfl rfl rfl rfl rfl rfl rfl ?_
       refine wl_end rfl ?_
       refine nm_lp ?_
       intro ax_ hax_
       refine ⟨_, ?hq9m, ⟨i4 + 1, rn2, es2, _, _, (hle6.trans hle7), rfl, hax_.sub ⟨rfl, rfl, rfl, rfl, rfl, rfl, rfl, trivial⟩, S27.pick [0, 1, 2, 3, 4, 5] [_, _, _, _, _, _] (by decide) ⟨rfl, rfl, rfl, rfl, rfl, rfl, trivial⟩, ?hq9f0, ?hq9f1, ?hq9f2⟩⟩
       case hq9f0 => omega
       case hq9f1 => (obtain rfl : k = (ga kσ i4).1.length := (by omega); rw [hrn2, List.take_length, take_ga kσ i4 (by omega), List.flatMap_append]; simp)
       case hq9f2 => exact hmr2
       case hq9m => omega
    ·replace hb66 := of_decide_eq_false hb66
     refine ws_exit rfl rfl ?_
     refine nm_sub [(2, _), (10, _)] ⟨rfl, rfl, trivial⟩ ?_
     refine nm_thn ?_
     refine ws_seqN Form_n89 Form_n90 rfl rfl rfl ?_
     refine ws_region rfl ?_
     refine wlo 0 1 rfl rfl rfl (wo_run rfl rfl (run_loadN (us := [_, _]) rfl rfl Try.underlying24 rfl sz24 (S24.boxcs (i := 3) rfl ⟨rfl, rfl, trivial⟩)) ?_)
     refine wlo 1 2 rfl rfl rfl (wo_storeB (i := 5) (us := [_, _]) (l' := [_, _]) (H' := [_, _, _, _, _, _]) rfl rfl S24 rfl rfl rfl rfl sz24 rfl (ones_cons (S24.one (i := 0) rfl) (ones_cons rfl rfl)) rfl rfl ?_)
     intro w78 S99; clear S24
     refine wl_end rfl ?_
     refine nm_sub [(2, _)] ⟨rfl, trivial⟩ ?_
     refine nm_thn ?_
     obtain ⟨M48, hle48, S100, ⟨A5, c5, e3, hr10⟩⟩ := S99.pubrow (i := 0) (H' := [_, _, _, _, _, _]) rfl rfl (by show _ * 40 ≤ _; first | omega | (simp only [lens]; omega))
     clear S99; subst e3
     replace hsb := hsb.mono (Hp.un_mono hle48 S100.mx)
     replace hsc := hsc.mono (Hp.un_mono hle48 S100.mx)
     replace hsi := hsi.mono (Hp.un_mono hle48 S100.mx)
     replace hso := hso.mono (Hp.un_mono hle48 S100.mx)
     replace hr1 := hr1.mono hle48
     replace hd1 := hd1.mono hle48
     replace hz1 := hz1.mono hle48
     replace hz2 := hz2.mono hle48
     refine ws_ret hC [_] rfl rfl ⟨⟨_, rfl, loadVarN (us := [_, _]) Try.underlying24 rfl sz24 (S100.boxcs (i := 5) rfl ⟨rfl, rfl, trivial⟩)⟩, trivial⟩ ?_
     refine ⟨_, rfl, _, ((hle1.trans hle2).trans hle6).trans hle48, (S100.pick [] [] (by decide) trivial), ?_⟩
     obtain rfl : i4 = (pcsL d).length := by omega
     have e9 : (canD d).crs = rn.cs := by unfold canD seqD; rw [sK_eq hsk1, hrn, List.take_of_length_le (by omega), hkσ, List.flatMap_map]
     rw [e9]
     exact ⟨_, _, rfl, hr10⟩
end Go.Proofs.Ytefkjfcncpmneaa
namespace Go.Proofs.Ytefkjfcncpmneaa
open Go.ChangeShapes Go.WideShapes Go.ChangeAt Go.RowKit
def isRt (d : Dg) (x : Nat) : Bool := decide (ga (whoL d) x = (x : Int))
def rtC (d : Dg) (c : Nat) : Nat := cn (isRt d) c
theorem pcsN_pre {d : Dg} (c e : Nat) (h : c ≤ e) : (pcsN d c).2.length ≤ (pcsN d e).2.length ∧ ∀ i, i < (pcsN d c).2.length → ga (pcsN d e).2 i = ga (pcsN d c).2 i := by
 induction e with
 | zero => obtain rfl : c = 0 := (by omega); exact ⟨Nat.le_refl _, fun _ _ => rfl⟩
 | succ e ih =>
  by_cases e1 : c = e + 1
  ·subst e1; exact ⟨Nat.le_refl _, fun _ _ => rfl⟩
  ·obtain ⟨i1, i2⟩ := ih (by omega)
   cases hg : ga (pcsN d e).1 e with
   | true => rw [pcsN_skip rfl hg]; exact ⟨i1, i2⟩
   | false =>
    rw [pcsN_add rfl hg rfl]
    refine ⟨by rw [List.length_append]; omega, fun i hi => ?_⟩
    rw [← i2 i hi]
    exact ga_append_left _ _ _ (by omega)
theorem pcsN_at {d : Dg} (hab : arcsB d = true) {c : Nat} (hc : c ≤ d.crs.length) : PcI d c (pcsN d c) ∧ (pcsN d c).2.length = rtC d c ∧ ∀ i, i < (pcsN d c).2.length → ∃ z : Nat, z < c ∧ (z : Int) ∈ ga (pcsN d c).2 i := by
 have I := pcsN_pi hab (nb_sym hab) c hc
 refine ⟨I, ?_⟩
 induction c with
 | zero => exact ⟨rfl, fun i hi => absurd hi (Nat.not_lt_zero _)⟩
 | succ c ih =>
  have I0 := pcsN_pi hab (nb_sym hab) c (by omega)
  obtain ⟨i1, i2⟩ := ih (by omega) I0
  have hpre := pcsN_pre (d := d) c d.crs.length (by omega)
  have hat : ∀ i z, i < (pcsN d c).2.length → (z : Int) ∈ ga (pcsN d c).2 i → ∀ z' : Nat, z = z' → pcI d z' = i := fun i z hi hz z' e => by
   subst e
   have hi2 : i < (pcsL d).length := Nat.lt_of_lt_of_le hi hpre.1
   exact (pcI_at hab hi2 (by show (z' : Int) ∈ ga (pcsN d d.crs.length).2 i; rw [hpre.2 i hi]; exact hz)).2
  obtain ⟨z, z1, z2, z3, z4⟩ := whoL_law hab c (by omega)
  have hcn : cn (isRt d) (c + 1) = cn (isRt d) c + (if isRt d c = true then 1 else 0) := rfl
  cases hg : ga (pcsN d c).1 c with
  | true =>
   rw [pcsN_skip rfl hg]
   obtain ⟨i, hi, hm⟩ := (I0.see c (by omega)).1 hg
   obtain ⟨y, hy, hym⟩ := i2 i hi
   have e1 := hat i _ hi hm c rfl
   have e2 := hat i _ hi hym y rfl
   have hzy := z4 y (by omega) (by rw [e1, e2])
   have hnr : isRt d c = false := by unfold isRt; rw [z2, decide_eq_false_iff_not]; omega
   refine ⟨?_, fun i hi => by obtain ⟨y, h1, h2⟩ := i2 i hi; exact ⟨y, by omega, h2⟩⟩
   show _ = cn (isRt d) (c + 1)
   rw [hcn, hnr, i1]; rfl
  | false =>
   have hrt : isRt d c = true := by
    unfold isRt
    rw [z2, decide_eq_true_iff]
    by_cases e : z = c
    ·rw [e]
    ·exfalso
     have hzc := z4 c (by omega) rfl
     have hsz := I0.cov z (by omega)
     obtain ⟨i, hi, hm⟩ := (I0.see z z1).1 hsz
     have e1 := hat i _ hi hm z rfl
     obtain ⟨_, q2, _⟩ := pcI_lt hab (x := c) (by omega)
     rw [← z3, e1] at q2
     have q3 : (c : Int) ∈ ga (pcsN d c).2 i := by rw [← hpre.2 i hi]; exact q2
     rw [(I0.see c (by omega)).2 ⟨i, hi, q3⟩] at hg
     cases hg
   have I1 := I
   rw [pcsN_add rfl hg rfl] at I1 ⊢
   have hl : ((pcsN d c).2 ++ [srt (bfsN d d.crs.length 0 ((pcsN d c).1.set c true, [(c : Int)])).2]).length = (pcsN d c).2.length + 1 := by simp
   refine ⟨?_, fun i hi => ?_⟩
   ·show ((pcsN d c).2 ++ [_]).length = cn (isRt d) (c + 1)
    rw [hcn, hrt, hl, i1]; rfl
   ·by_cases e : i < (pcsN d c).2.length
    ·obtain ⟨y, h1, h2⟩ := i2 i e
     exact ⟨y, by omega, by show _ ∈ ga ((pcsN d c).2 ++ [_]) i; rw [ga_append_left _ _ _ e]; exact h2⟩
    ·obtain ⟨i', hi', hm⟩ := (I1.see c (by omega)).1 (I1.cov c (by omega))
     have e2 : ¬ i' < (pcsN d c).2.length := fun e2 => by
      have hm' : (c : Int) ∈ ga ((pcsN d c).2 ++ [srt (bfsN d d.crs.length 0 ((pcsN d c).1.set c true, [(c : Int)])).2]) i' := hm
      rw [ga_append_left _ _ _ e2] at hm'
      rw [(I0.see c (by omega)).2 ⟨i', e2, hm'⟩] at hg
      cases hg
     have h9 : i < ((pcsN d c).2 ++ [srt (bfsN d d.crs.length 0 ((pcsN d c).1.set c true, [(c : Int)])).2]).length := hi
     have h8 : i' < ((pcsN d c).2 ++ [srt (bfsN d d.crs.length 0 ((pcsN d c).1.set c true, [(c : Int)])).2]).length := hi'
     obtain rfl : i = i' := by omega
     exact ⟨c, by omega, hm⟩
theorem rtC_all {d : Dg} (hab : arcsB d = true) : rtC d d.crs.length = (pcsL d).length := (pcsN_at hab (Nat.le_refl _)).2.1.symm
theorem root_at {d : Dg} (hab : arcsB d = true) {p : Nat} (hp : p < d.crs.length) (hr : ga (whoL d) p = (p : Int)) : pcI d p = rtC d p ∧ rtC d (p + 1) = rtC d p + 1 ∧ rtC d p < (pcsL d).length := by
 have hrt : isRt d p = true := by unfold isRt; rw [decide_eq_true_iff]; exact hr
 have e1 : rtC d (p + 1) = rtC d p + 1 := by unfold rtC; rw [cn, if_pos hrt]
 obtain ⟨I1, l1, _⟩ := pcsN_at hab (c := p + 1) (by omega)
 obtain ⟨I0, l0, w0⟩ := pcsN_at hab (c := p) (by omega)
 have hpre := pcsN_pre (d := d) (p + 1) d.crs.length (by omega)
 have hpre0 := pcsN_pre (d := d) p (p + 1) (by omega)
 obtain ⟨i, hi, hm⟩ := (I1.see p hp).1 (I1.cov p (by omega))
 have hi2 : i < (pcsL d).length := Nat.lt_of_lt_of_le hi hpre.1
 have e := (pcI_at hab hi2 (by show _ ∈ ga (pcsN d d.crs.length).2 i; rw [hpre.2 i hi]; exact hm)).2
 refine ⟨?_, e1, ?_⟩
 ·rw [e]
  by_cases e2 : i < (pcsN d p).2.length
  ·exfalso
   obtain ⟨y, hy, hym⟩ := w0 i e2
   have hi0 : i < (pcsL d).length := hi2
   have e3 := (pcI_at hab hi0 (x := y) (by show _ ∈ ga (pcsN d d.crs.length).2 i; rw [hpre.2 i hi, hpre0.2 i e2]; exact hym)).2
   obtain ⟨z, z1, z2, z3, z4⟩ := whoL_law hab p hp
   have := z4 y (by omega) (by rw [e3, e])
   rw [hr] at z2
   omega
  ·omega
 ·rw [← l0]
  have := hpre.1
  have h2 : (pcsL d).length = (pcsN d d.crs.length).2.length := rfl
  omega
theorem rtC_skip {d : Dg} {p : Nat} (hr : ¬ ga (whoL d) p = (p : Int)) : rtC d (p + 1) = rtC d p := by
 unfold rtC; rw [cn, if_neg (by unfold isRt; rw [decide_eq_true_iff]; exact hr)]; rfl
def flt (d : Dg) (p n : Nat) : List Nat := (List.range n).filter fun x => decide (ga (whoL d) x = (p : Int))
theorem flt_succ (d : Dg) (p n : Nat) : flt d p (n + 1) = if ga (whoL d) n = (p : Int) then flt d p n ++ [n] else flt d p n := by
 unfold flt
 rw [List.range_succ, List.filter_append]
 by_cases e : ga (whoL d) n = (p : Int)
 ·rw [if_pos e, List.filter_cons_of_pos (by simpa using e)]; rfl
 ·rw [if_neg e, List.filter_cons_of_neg (by simpa using e), List.filter_nil, List.append_nil]
theorem bef_lt {i j : Nat} : bef (fun _ => []) i j ↔ i < j := by
 unfold bef
 rw [lessL_irr]
 constructor
 ·rintro (h | ⟨_, h⟩)
  ·cases h
  ·exact h
 ·exact fun h => .inr ⟨rfl, h⟩
theorem lt_uniq {σ τ : List Nat} (h : σ.Perm τ) (h1 : σ.Pairwise (· < ·)) (h2 : τ.Pairwise (· < ·)) : σ = τ := sort_uniq (K := fun _ => []) h (h1.imp fun h => bef_lt.2 h) (h2.imp fun h => bef_lt.2 h)
theorem inc_of {l : List Int} (h : l.Pairwise (fun a b => a ≤ b)) (hn : l.Nodup) : l.Pairwise (fun a b => a < b) := by
 rw [List.nodup_iff_pairwise_ne] at hn
 exact (h.and hn).imp fun ⟨h1, h2⟩ => by omega
theorem srt_le (xs : List Int) : (srt xs).Pairwise (fun a b => a ≤ b) := by
 have := List.pairwise_mergeSort (le := fun x y : Int => decide (x ≤ y)) (fun a b c h1 h2 => by simp at *; omega) (fun a b => by simp; omega) xs
 exact this.imp fun h => by simpa using h
theorem pcs_srt {d : Dg} : ∀ c, ∀ l ∈ (pcsN d c).2, ∃ l', l = srt l' := by
 intro c
 induction c with
 | zero => intro l h; cases h
 | succ c ih =>
  intro l h
  cases hg : ga (pcsN d c).1 c with
  | true => rw [pcsN_skip rfl hg] at h; exact ih l h
  | false =>
   rw [pcsN_add rfl hg rfl] at h
   have h' : l ∈ (pcsN d c).2 ++ [srt (bfsN d d.crs.length 0 ((pcsN d c).1.set c true, [(c : Int)])).2] := h
   rcases List.mem_append.1 h' with h' | h'
   ·exact ih l h'
   ·rw [List.mem_singleton] at h'; exact ⟨_, h'⟩
theorem pcN_flt {d : Dg} (hab : arcsB d = true) {p : Nat} (hp : p < d.crs.length) (hr : ga (whoL d) p = (p : Int)) : flt d p d.crs.length = pcN d (rtC d p) := by
 obtain ⟨r1, r2, r3⟩ := root_at hab hp hr
 obtain ⟨q1, c0, _, _, q2⟩ := (pcs hab).el _ r3
 have hmem : ∀ x : Nat, x ∈ flt d p d.crs.length ↔ x ∈ pcN d (rtC d p) := fun x => by
  unfold flt pcN
  rw [List.mem_filter, List.mem_range, decide_eq_true_iff]
  constructor
  ·rintro ⟨h1, h2⟩
   have e := (who_iff hab hp hr h1).1 h2
   obtain ⟨_, g2, _⟩ := pcI_lt hab h1
   rw [e, r1] at g2
   exact List.mem_map.2 ⟨_, g2, Int.toNat_natCast x⟩
  ·intro h
   obtain ⟨y, hy, rfl⟩ := List.mem_map.1 h
   obtain ⟨y1, y2, y3⟩ := pc_mem hab r3 hy
   exact ⟨y2, (who_iff hab hp hr y2).2 (by rw [y3, r1])⟩
 have hs1 : (flt d p d.crs.length).Pairwise (· < ·) := List.Pairwise.sublist List.filter_sublist List.pairwise_lt_range
 have hs2 : (pcN d (rtC d p)).Pairwise (· < ·) := by
  obtain ⟨l', e⟩ := pcs_srt d.crs.length (ga (pcsL d) (rtC d p)) (ga_mem r3)
  have hi : (ga (pcsL d) (rtC d p)).Pairwise (fun a b => a < b) := inc_of (by rw [e]; exact srt_le l') q1
  unfold pcN
  rw [List.pairwise_map]
  refine List.Pairwise.imp_of_mem (fun {a b} ha hb hab' => ?_) hi
  have ha := (pc_mem hab r3 ha).1
  have hb := (pc_mem hab r3 hb).1
  omega
 have n1 : (flt d p d.crs.length).Nodup := by rw [List.nodup_iff_pairwise_ne]; exact hs1.imp fun h => by omega
 have n2 : (pcN d (rtC d p)).Nodup := by rw [List.nodup_iff_pairwise_ne]; exact hs2.imp fun h => by omega
 exact lt_uniq ((List.perm_ext_iff_of_nodup n1 n2).2 hmem) hs1 hs2
structure Sel (K : Nat → List Int) (m : Nat) (κ : List Nat) : Prop where
 lt : ∀ x, x ∈ κ → x < m
 nod : κ.Nodup
 pw : κ.Pairwise (bef K)
 rest : ∀ x, x ∈ κ → ∀ y, y < m → y ∉ κ → bef K x y
theorem Sel.nil {K : Nat → List Int} {m : Nat} : Sel K m [] := ⟨fun x h => (by cases h), List.nodup_nil, List.Pairwise.nil, fun x h => (by cases h)⟩
theorem Sel.snoc {K : Nat → List Int} {m : Nat} {κ : List Nat} (h : Sel K m κ) {k : Nat} (hk : k < m) (hn : k ∉ κ) (hb : ∀ y, y < m → y ∉ κ → y ≠ k → bef K k y) : Sel K m (κ ++ [k]) := by
 refine ⟨fun x hx => ?_, ?_, ?_, fun x hx y hy hyn => ?_⟩
 ·rcases List.mem_append.1 hx with hx | hx
  ·exact h.lt x hx
  ·rw [List.mem_singleton] at hx; rw [hx]; exact hk
 ·rw [List.nodup_append]
  exact ⟨h.nod, by simp, fun a ha b hb e => by rw [List.mem_singleton] at hb; subst hb; subst e; exact hn ha⟩
 ·exact List.pairwise_append.2 ⟨h.pw, List.pairwise_singleton _ _, fun x hx y hy => by rw [List.mem_singleton] at hy; subst hy; exact h.rest x hx _ hk hn⟩
 ·have hy1 : y ∉ κ := fun e => hyn (List.mem_append_left _ e)
  have hy2 : y ≠ k := fun e => hyn (by rw [e]; exact List.mem_append_right _ (List.mem_singleton.2 rfl))
  rcases List.mem_append.1 hx with hx | hx
  ·exact h.rest x hx y hy hy1
  ·rw [List.mem_singleton] at hx; subst hx; exact hb y hy hy1 hy2
theorem Sel.sort {K : Nat → List Int} {m : Nat} {κ : List Nat} (h : Sel K m κ) (hl : κ.length = m) : SortK K m κ := by
 refine ⟨?_, h.pw⟩
 refine (List.perm_ext_iff_of_nodup h.nod List.nodup_range).2 fun x => ?_
 rw [List.mem_range]
 refine ⟨h.lt x, fun hx => ?_⟩
 by_cases e : x ∈ κ
 ·exact e
 ·exfalso
  have := nodup_le (xs := x :: κ) (ys := List.range m) (List.nodup_cons.2 ⟨e, h.nod⟩) (fun y hy => by
   rcases List.mem_cons.1 hy with rfl | hy
   ·exact List.mem_range.2 hx
   ·exact List.mem_range.2 (h.lt y hy))
  rw [List.length_cons, List.length_range] at this
  omega
theorem sel_some {m : Nat} {κ : List Nat} (hn : κ.Nodup) (hl : κ.length < m) : ∃ x, x < m ∧ x ∉ κ := by
 apply Classical.byContradiction
 intro h
 have := nodup_le (xs := List.range m) (ys := κ) List.nodup_range (fun y hy => by
  apply Classical.byContradiction
  intro e
  exact h ⟨y, List.mem_range.1 hy, e⟩)
 rw [List.length_range] at this
 omega
end Go.Proofs.Ytefkjfcncpmneaa
