/- Part 9 of the proof of the law ColourCounts: the walks through its functions and the plain laws that they need. -/
import Derived.Test.YtefkjfcncpmneaaCcZ8
set_option linter.unusedSimpArgs false
set_option linter.unusedVariables false
namespace Go.Proofs.Ytefkjfcncpmneaa
open Go.ChangeShapes Go.WideShapes Go.ChangeAt Go.RowKit
theorem give_i {w : World} {M : Hp} {X : Fr} (p c : Int) {gb12 : Nat} (ag : Bool) {gb11 : Nat} {vcs : Value} (cs : List Int) (hp : 0 ≤ p ∧ p < (cs.length : Int)) (S : SH w M X [Rs.bun [Rs.box gb11 33 [vcs], Rs.row cdInt vcs cs, Rs.box gb12 4 [.bool ag]]]) :
  C1 Try.prog 111 [.int .i64 p, .int .i64 c, .pointer (some ⟨gb12, 0, none⟩), .pointer (some ⟨gb11, 0, none⟩)] w M X (fun u M' r' => M' = M ∧ u = .bool (gvB cs p.toNat c) ∧ r' = Rs.bun [Rs.box gb11 33 [vcs], Rs.row cdInt vcs (gvC cs p.toNat c), Rs.box gb12 4 [.bool (gvA cs p.toNat ag)]]) := by
 obtain ⟨n, rfl⟩ : ∃ n : Nat, p = (n : Int) := ⟨p.toNat, by omega⟩
 exact give_b n c ag cs (by omega) S
theorem gvA_f {cs : List Int} {p : Nat} {c : Int} {ag : Bool} (h : gvA cs p ag = false) : ga cs p ≠ -1 ∧ ag = false ∧ gvC cs p c = cs := by
 unfold gvA at h
 split at h
 ·cases h
 ·rename_i e; exact ⟨e, h, by unfold gvC; rw [if_neg e]⟩
theorem gvB_t {cs : List Int} {p : Nat} {c : Int} (h : gvB cs p c = true) (h1 : ga cs p ≠ -1) : ga cs p = c := by
 unfold gvB at h; rw [decide_eq_true_iff] at h; exact h.resolve_left h1
theorem gvC_keep {cs : List Int} {p x : Nat} {c : Int} (h : ga cs x ≠ -1) : ga (gvC cs p c) x = ga cs x := by
 unfold gvC
 split
 ·rename_i e
  by_cases hp : p < cs.length
  ·rw [ga_set _ _ _ _ hp, if_neg (fun e2 => h (by rw [← e2]; exact e))]
  ·rw [List.set_eq_of_length_le (by omega)]
 ·rfl
noncomputable def follow_n0 : Code := Try.f90.body.getD .skip
noncomputable def follow_n1 : Code := cL follow_n0
noncomputable def follow_n2 : Code := cR follow_n0
noncomputable def follow_n3 : Code := cL follow_n2
noncomputable def follow_n4 : Code := cR follow_n2
noncomputable def follow_n5 : Code := cL follow_n4
noncomputable def follow_n6 : Code := cR follow_n4
noncomputable def follow_n7 : Code := cL follow_n5
noncomputable def follow_n8 : Code := cR follow_n5
noncomputable def follow_n9 : Code := cL follow_n8
noncomputable def follow_n10 : Code := cL follow_n9
noncomputable def follow_n11 : Code := cL follow_n10
noncomputable def follow_n12 : Code := cR follow_n10
noncomputable def follow_n13 : Code := cL follow_n11
noncomputable def follow_n14 : Code := cR follow_n11
noncomputable def follow_n15 : Code := cL follow_n14
noncomputable def follow_n16 : Code := cR follow_n14
noncomputable def follow_n17 : Code := cL follow_n12
noncomputable def follow_n18 : Code := cR follow_n12
noncomputable def follow_n19 : Code := cL follow_n17
noncomputable def follow_n20 : Code := cL follow_n19
noncomputable def follow_n21 : Code := cR follow_n19
noncomputable def follow_n22 : Code := cL follow_n21
noncomputable def follow_n23 : Code := cR follow_n21
noncomputable def follow_n24 : Code := cL follow_n23
noncomputable def follow_n25 : Code := cL follow_n24
noncomputable def follow_n26 : Code := cL follow_n25
noncomputable def follow_n27 : Code := cR follow_n25
noncomputable def follow_n28 : Code := cL follow_n27
noncomputable def follow_n29 : Code := cR follow_n27
noncomputable def follow_n30 : Code := cL follow_n28
noncomputable def follow_n31 : Code := cR follow_n28
noncomputable def follow_n32 : Code := cL follow_n29
noncomputable def follow_n33 : Code := cR follow_n29
noncomputable def follow_n34 : Code := cL follow_n32
noncomputable def follow_n35 : Code := cL follow_n34
noncomputable def follow_n36 : Code := cR follow_n34
noncomputable def follow_n37 : Code := cL follow_n36
noncomputable def follow_n38 : Code := cR follow_n36
noncomputable def follow_n39 : Code := cL follow_n38
noncomputable def follow_n40 : Code := cR follow_n38
noncomputable def follow_n41 : Code := cL follow_n39
noncomputable def follow_n42 : Code := cR follow_n39
noncomputable def follow_n43 : Code := cL follow_n42
noncomputable def follow_n44 : Code := cR follow_n42
noncomputable def follow_n45 : Code := cL follow_n40
noncomputable def follow_n46 : Code := cR follow_n40
noncomputable def follow_n47 : Code := cL follow_n45
noncomputable def follow_n48 : Code := cR follow_n45
noncomputable def follow_n49 : Code := cL follow_n48
noncomputable def follow_n50 : Code := cR follow_n48
noncomputable def follow_n51 : Code := cL follow_n50
noncomputable def follow_n52 : Code := cR follow_n50
noncomputable def follow_n53 : Code := cL follow_n51
noncomputable def follow_n54 : Code := cR follow_n51
noncomputable def follow_n55 : Code := cL follow_n46
noncomputable def follow_n56 : Code := cR follow_n46
noncomputable def follow_n57 : Code := cL follow_n56
noncomputable def follow_n58 : Code := cR follow_n56
noncomputable def follow_n59 : Code := cL follow_n58
noncomputable def follow_n60 : Code := cR follow_n58
noncomputable def follow_n61 : Code := cL follow_n59
noncomputable def follow_n62 : Code := cR follow_n59
noncomputable def follow_n63 : Code := cL follow_n18
noncomputable def follow_n64 : Code := cR follow_n18
noncomputable def follow_n65 : Code := cL follow_n6
noncomputable def follow_n66 : Code := cR follow_n6
set_option maxHeartbeats 4000000 in
set_option maxRecDepth 10000 in
theorem follow_w {w : World} {M : Hp} {X : Fr} (q : List (List Int)) (rs : List Rl) {gk : Nat} {qA rA : Option Addr} {qc rc : Nat} {qv : List SlV} (vcs : Value) (cs : List Int) (hkb : BxM (M.un X.h) gk 99 [.slice qA qv.length qc, .slice rA rs.length rc]) (hq : RdA (cdV 33) (M.un X.h) qA qc qv) (hdq : Rd2 cdInt (M.un X.h) qv q) (hru : RdA cdRl (M.un X.h) rA rc rs) (hQF : QuF q) (hQK : QuK q) (hRV : RuV rs cs.length) (hCV : ColV q cs) (S : SH w M X [Rs.row cdInt vcs cs]) : C1 Try.prog 90 [.pointer (some ⟨gk, 0, none⟩), vcs] w M X (fun u M' r' => M' = M ∧ ∃ cs' ok, u = .bool ok ∧ FolR q rs cs cs' ok ∧ r' = Rs.row cdInt vcs cs') := by
 unfold C1
 have hlq := hdq.1
 have rmru : rs.length * 24 ≤ 140737488355328 := hru.room
 refine calls_in (b := follow_n0) Try.func90 rfl Try.ntmps90 rfl (fun C hC => ?_)
 refine ws_sub [(0, _), (1, _)] ⟨rfl, rfl, trivial⟩ ?_
 refine ws_seqN follow_n1 follow_n2 rfl rfl rfl ?_
 refine ws_region rfl ?_
 refine wlo 0 1 rfl rfl rfl (wo_box (l := [_]) rfl rfl rfl rfl (S.cells1 (i := 0) rfl) S ?_)
 intro gb1 w1 S1; clear S
 refine wla 1 2 rfl rfl rfl rfl rfl rfl rfl ?_
 refine wl_end rfl ?_
 refine nm_sub [(0, _), (3, _)] ⟨rfl, rfl, trivial⟩ ?_
 refine nm_thn ?_
 refine ws_seqN follow_n3 follow_n4 rfl rfl rfl ?_
 refine ws_region rfl ?_
 refine wlo 0 1 rfl rfl rfl (wo_run rfl rfl (run_makeFunc (vs := [_]) rfl rfl rfl rfl) ?_)
 refine wla 1 2 rfl rfl rfl rfl rfl rfl rfl ?_
 refine wl_end rfl ?_
 refine nm_sub [(0, _), (3, _), (5, _)] ⟨rfl, rfl, rfl, trivial⟩ ?_
 refine nm_thn ?_
 refine ws_seqN follow_n5 follow_n6 rfl rfl rfl ?_
 refine ws_seqN follow_n7 follow_n8 rfl rfl rfl ?_
 refine ws_region rfl ?_
 refine wlo 0 1 rfl rfl rfl (wo_alloc (l := [_]) rfl rfl rfl zr4 rfl S1 ?_)
 intro gb2 w2 S2; clear S1
 refine wlo 1 2 rfl rfl rfl (wo_storeB (i := 0) (us := [_]) (l' := [_]) (H' := [_, _, _]) rfl rfl S2 rfl rfl rfl rfl sz4 rfl rfl rfl rfl ?_)
 intro w3 S3; clear S2
 refine wl_end rfl ?_
 refine nm_thn ?_
 refine ws_blockN follow_n9 0 rfl rfl rfl ?_
 refine ws_loopE (fun mx_ ax_ wx_ => ∃ (cl1 : List Int) (ag : Bool) (vca : Value) (gbg : Nat), mx_ = 2 * nones cl1 + (if ag = true then 1 else 0) ∧ Env 74 [(0, .pointer (some ⟨gk, 0, none⟩)), (3, .pointer (some ⟨gb1, 0, none⟩)), (5, .func (.func 111) #[] [.pointer (some ⟨gb1, 0, none⟩)].toArray), (6, .pointer (some ⟨gbg, 0, none⟩))] ax_ ∧ SH wx_ M X [Rs.box gbg 4 [.bool ag], Rs.box gb1 33 [vca], Rs.row cdInt vca cl1] ∧ vca = vcs ∧ FolI q rs cs cl1 ∧ (ag = false → ∀ i, i < rs.length → CloQ q (ga rs i) cl1)) rfl ?_ ?_
 ·intro ax_ hax_
  refine ⟨_, ⟨cs, true, _, _, rfl, hax_.sub ⟨rfl, rfl, rfl, rfl, trivial⟩, S3.pick [0, 1, 2] [_, _, _] (by decide) ⟨rfl, rfl, rfl, trivial⟩, ?hq1f0, ?hq1f1, ?hq1f2⟩⟩
  case hq1f0 => rfl
  case hq1f1 => exact FolI.start hCV
  case hq1f2 => (intro h; cases h)
 ·rintro m1 a1 w4 ⟨cl1, ag, vca, gbg, rfl, he1, S4, hva, hF, hclo⟩
  clear S3
  refine ws_in he1 (c := follow_n10) rfl ?_
  clear he1 a1
  refine ws_seqN follow_n11 follow_n12 rfl rfl rfl ?_
  refine ws_seqN follow_n13 follow_n14 rfl rfl rfl ?_
  refine ws_region rfl ?_
  refine wlo 0 1 rfl rfl rfl (wo_run rfl rfl (run_load1 rfl rfl Try.underlying4 rfl (S4.boxc (i := 0) rfl rfl)) ?_)
  refine wl_end rfl ?_
  refine nm_thn ?_
  refine ws_condN follow_n15 follow_n16 rfl rfl rfl rfl (fun hb13 => ?_) (fun hb13 => ?_)
  ·refine ws_skip rfl ?_
   refine nm_sub [(0, _), (3, _), (5, _), (6, _)] ⟨rfl, rfl, rfl, rfl, trivial⟩ ?_
   refine nm_thn ?_
   refine ws_seqN follow_n17 follow_n18 rfl rfl rfl ?_
   refine ws_blockN follow_n19 1 rfl rfl rfl ?_
   refine ws_seqN follow_n20 follow_n21 rfl rfl rfl ?_
   refine ws_region rfl ?_
   refine wlo 0 1 rfl rfl rfl (wo_storeB (i := 0) (us := [_]) (l' := [_]) (H' := [_, _, _]) rfl rfl S4 rfl rfl rfl rfl sz4 rfl rfl rfl rfl ?_)
   intro w5 S5; clear S4
   refine wl_end rfl ?_
   refine nm_thn ?_
   refine ws_seqN follow_n22 follow_n23 rfl rfl rfl ?_
   refine ws_region rfl ?_
   refine wlm 0 1 rfl rfl rfl rfl rfl rfl rfl ?_
   refine wlo 1 2 rfl rfl rfl (wo_run rfl rfl (run_nilCheck rfl rfl) ?_)
   refine wlo 2 3 rfl rfl rfl (wo_run rfl rfl (run_fieldAddr rfl rfl Try.underlying99 rfl (ce97) (nf97)) ?_)
   refine wlo 3 4 rfl rfl rfl (wo_run rfl rfl (run_load1 rfl rfl Try.underlying97 rfl (hkb.cell S5.um rfl)) ?_)
   refine wlo 4 5 rfl rfl rfl (wo_run rfl rfl (run_len rfl rfl rfl rfl rfl rfl Try.underlying97) ?_)
   refine wlm 5 6 rfl rfl rfl rfl rfl rfl rfl ?_
   refine wl_end rfl ?_
   refine nm_sub [(0, _), (3, _), (5, _), (6, _), (17, _), (18, _), (19, _)] ⟨rfl, rfl, rfl, rfl, rfl, rfl, rfl, trivial⟩ ?_
   refine nm_thn ?_
   refine ws_blockN follow_n24 2 rfl rfl rfl ?_
   refine ws_loopE (fun mx_ ax_ wx_ => ∃ (i : Nat) (cl2 : List Int) (ag2 : Bool) (vcb : Value), mx_ = rs.length - i ∧ Env 74 [(0, .pointer (some ⟨gk, 0, none⟩)), (3, .pointer (some ⟨gb1, 0, none⟩)), (5, .func (.func 111) #[] [.pointer (some ⟨gb1, 0, none⟩)].toArray), (6, .pointer (some ⟨gbg, 0, none⟩)), (17, .slice rA rs.length rc), (18, .int .i64 (rs.length : Int)), (19, .int .i64 (i : Int))] ax_ ∧ SH wx_ M X [Rs.box gbg 4 [.bool ag2], Rs.box gb1 33 [vcb], Rs.row cdInt vcb cl2] ∧ i ≤ rs.length ∧ vcb = vca ∧ FolI q rs cs cl2 ∧ PasI cl1 cl2 ag2 ∧ (ag2 = false → ∀ j, j < i → CloQ q (ga rs j) cl2)) rfl ?_ ?_
   ·intro ax_ hax_
    refine ⟨_, ⟨0, cl1, false, _, rfl, hax_.sub ⟨rfl, rfl, rfl, rfl, rfl, rfl, rfl, trivial⟩, S5.pick [0, 1, 2] [_, _, _] (by decide) ⟨rfl, rfl, rfl, trivial⟩, ?hq2f0, ?hq2f1, ?hq2f2, ?hq2f3, ?hq2f4⟩⟩
    case hq2f0 => omega
    case hq2f1 => rfl
    case hq2f2 => exact hF
    case hq2f3 => exact ⟨rfl, fun h => (by cases h), fun _ => rfl⟩
    case hq2f4 => (intro _ j hj; omega)
   ·rintro m2 a2 w6 ⟨i, cl2, ag2, vcb, rfl, he2, S6, hi, hvb, hF2, hP2, hclo2⟩
    clear S5
    refine ws_in he2 (c := follow_n25) rfl ?_
    clear he2 a2
    have hlen2 := hF2.1
    refine ws_seqN follow_n26 follow_n27 rfl rfl rfl ?_
    refine ws_region rfl ?_
    refine wlo 0 1 rfl rfl rfl (wo_run rfl rfl (run_lss rfl rfl rfl) ?_)
    refine wl_end rfl ?_
    refine nm_thn ?_
    refine ws_seqN follow_n28 follow_n29 rfl rfl rfl ?_
    refine ws_condN follow_n30 follow_n31 rfl rfl rfl rfl (fun hb20 => ?_) (fun hb20 => ?_)
    ·replace hb20 := of_decide_eq_true hb20
     refine ws_skip rfl ?_
     refine nm_sub [(0, _), (3, _), (5, _), (6, _), (17, _), (18, _), (19, _)] ⟨rfl, rfl, rfl, rfl, rfl, rfl, rfl, trivial⟩ ?_
     refine nm_thn ?_
     refine ws_seqN follow_n32 follow_n33 rfl rfl rfl ?_
     refine ws_blockN follow_n34 3 rfl rfl rfl ?_
     refine ws_seqN follow_n35 follow_n36 rfl rfl rfl ?_
     obtain ⟨hrf, hro, hrt⟩ := hRV i (by omega)
     refine ws_region rfl ?_
     refine wlo 0 1 rfl rfl rfl (wo_run rfl rfl (run_indexM (C := cdRl) i rfl rfl rfl sl97 (by first | rfl | omega) hru (by first | omega | (simp only [lens]; omega))) ?_)
     refine wlo 1 2 rfl rfl rfl (wo_run rfl rfl (run_loadN (us := [_, _, _]) rfl rfl Try.underlying101 rfl sz101 (hru.cellsAt S6.um (e := i) (by first | omega | (simp only [lens]; omega)) (j := 0) ⟨rfl, rfl, rfl, trivial⟩)) ?_)
     refine wlo 2 3 rfl rfl rfl (wo_alloc (l := [_, _, _]) rfl rfl rfl zr101 rfl S6 ?_)
     intro gb3 w7 S7; clear S6
     refine wlo 3 4 rfl rfl rfl (wo_storeB (i := 0) (us := [_, _, _]) (l' := [_, _, _]) (H' := [_, _, _, _]) rfl rfl S7 rfl rfl rfl rfl sz101 rfl rfl rfl rfl ?_)
     intro w8 S8; clear S7
     refine wl_end rfl ?_
     refine nm_sub [(0, _), (3, _), (5, _), (6, _), (17, _), (18, _), (19, _), (8, _)] ⟨rfl, rfl, rfl, rfl, rfl, rfl, rfl, rfl, trivial⟩ ?_
     refine nm_thn ?_
     refine ws_seqN follow_n37 follow_n38 rfl rfl rfl ?_
     refine ws_region rfl ?_
     refine wlo 0 1 rfl rfl rfl (wo_run rfl rfl (run_load1 rfl rfl Try.underlying33 rfl (S8.boxc (i := 2) rfl rfl)) ?_)
     refine wlo 1 2 rfl rfl rfl (wo_run rfl rfl (run_fieldAddr rfl rfl Try.underlying101 rfl (ce3) (nf3)) ?_)
     refine wlo 2 3 rfl rfl rfl (wo_run rfl rfl (run_load1 rfl rfl Try.underlying3 rfl (S8.boxc (i := 0) rfl rfl)) ?_)
     refine wlo 3 4 rfl rfl rfl (wo_run rfl rfl (run_indexR (C := cdInt) (i := 3) (((ga rs i).o).toNat) rfl rfl rfl sl33 S8 rfl (by first | rfl | omega) (by first | omega | (simp only [lens]; omega))) ?_)
     refine wlo 4 5 rfl rfl rfl (wo_run rfl rfl (run_load1 rfl rfl Try.underlying3 rfl (S8.rowc (i := 3) (e := ((ga rs i).o).toNat) (j := 0) rfl (by first | omega | (simp only [lens]; omega)) rfl rfl)) ?_)
     refine wla 5 6 rfl rfl rfl rfl rfl rfl rfl ?_
     refine wl_end rfl ?_
     refine nm_sub [(0, _), (3, _), (5, _), (6, _), (17, _), (18, _), (19, _), (8, _), (9, _)] ⟨rfl, rfl, rfl, rfl, rfl, rfl, rfl, rfl, rfl, trivial⟩ ?_
     refine nm_thn ?_
     refine ws_seqN follow_n39 follow_n40 rfl rfl rfl ?_
     refine ws_seqN follow_n41 follow_n42 rfl rfl rfl ?_
     refine ws_region rfl ?_
     refine wlm 0 1 rfl rfl rfl rfl rfl rfl rfl ?_
     refine wlo 1 2 rfl rfl rfl (wo_run rfl rfl (run_eql rfl rfl rfl) ?_)
     refine wl_end rfl ?_
     refine nm_sub [(0, _), (3, _), (5, _), (6, _), (17, _), (18, _), (19, _), (8, _), (9, _), (29, _)] ⟨rfl, rfl, rfl, rfl, rfl, rfl, rfl, rfl, rfl, rfl, trivial⟩ ?_
     refine nm_thn ?_
     refine ws_condN follow_n43 follow_n44 rfl rfl rfl rfl (fun hb29 => ?_) (fun hb29 => ?_)
     ·replace hb29 := of_decide_eq_true hb29
      have hclo9 : ag2 = false → ∀ j, j < i + 1 → CloQ q (ga rs j) cl2 := fun h9 j hj => by by_cases e : j = i; (subst e; exact .inl hb29); exact hclo2 h9 j (by omega)
      refine ws_exit rfl rfl ?_
      refine nm_sub [(0, _), (3, _), (5, _), (6, _), (17, _), (18, _), (19, _)] ⟨rfl, rfl, rfl, rfl, rfl, rfl, rfl, trivial⟩ ?_
      refine nm_thn ?_
      refine ws_region rfl ?_
      refine wlo 0 1 rfl rfl rfl (wo_run rfl rfl (run_add rfl rfl rfl (by first | omega | (simp only [lens]; omega))) ?_)
      refine wlm 1 2 rfl rfl rfl rfl rfl rfl rfl ?_
      refine wl_end rfl ?_
      refine nm_lp ?_
      intro ax_ hax_
      refine ⟨_, ?hq3m, ⟨i + 1, cl2, ag2, _, rfl, hax_.sub ⟨rfl, rfl, rfl, rfl, rfl, rfl, rfl, trivial⟩, S8.pick [1, 2, 3] [_, _, _] (by decide) ⟨rfl, rfl, rfl, trivial⟩, ?hq3f0, ?hq3f1, ?hq3f2, ?hq3f3, ?hq3f4⟩⟩
      case hq3f0 => omega
      case hq3f1 => exact hvb
      case hq3f2 => assumption
      case hq3f3 => assumption
      case hq3f4 => exact hclo9
      case hq3m => omega
     ·replace hb29 := of_decide_eq_false hb29
      have hov := hF2.2.1 (ga rs i).o.toNat (by omega)
      have hfv := hF2.2.1 (ga rs i).f.toNat (by omega)
      refine ws_skip rfl ?_
      refine nm_sub [(0, _), (3, _), (5, _), (6, _), (17, _), (18, _), (19, _), (8, _), (9, _)] ⟨rfl, rfl, rfl, rfl, rfl, rfl, rfl, rfl, rfl, trivial⟩ ?_
      refine nm_thn ?_
      refine ws_seqN follow_n45 follow_n46 rfl rfl rfl ?_
      refine ws_seqN follow_n47 follow_n48 rfl rfl rfl ?_
      refine ws_region rfl ?_
      refine wlo 0 1 rfl rfl rfl (wo_run rfl rfl (run_load1 rfl rfl Try.underlying33 rfl (S8.boxc (i := 2) rfl rfl)) ?_)
      refine wlo 1 2 rfl rfl rfl (wo_run rfl rfl (run_fieldAddr rfl rfl Try.underlying101 rfl (ce3) (nf3)) ?_)
      refine wlo 2 3 rfl rfl rfl (wo_run rfl rfl (run_load1 rfl rfl Try.underlying3 rfl (S8.boxc (i := 0) rfl rfl)) ?_)
      refine wlo 3 4 rfl rfl rfl (wo_run rfl rfl (run_indexR (C := cdInt) (i := 3) (((ga rs i).f).toNat) rfl rfl rfl sl33 S8 rfl (by first | rfl | omega) (by first | omega | (simp only [lens]; omega))) ?_)
      refine wlo 4 5 rfl rfl rfl (wo_run rfl rfl (run_load1 rfl rfl Try.underlying3 rfl (S8.rowc (i := 3) (e := ((ga rs i).f).toNat) (j := 0) rfl (by first | omega | (simp only [lens]; omega)) rfl rfl)) ?_)
      refine wla 5 6 rfl rfl rfl rfl rfl rfl rfl ?_
      refine wl_end rfl ?_
      refine nm_sub [(0, _), (3, _), (5, _), (6, _), (17, _), (18, _), (19, _), (8, _), (9, _), (10, _)] ⟨rfl, rfl, rfl, rfl, rfl, rfl, rfl, rfl, rfl, rfl, trivial⟩ ?_
      refine nm_thn ?_
      refine ws_seqN follow_n49 follow_n50 rfl rfl rfl ?_
      have S9 := S8.pick [2, 3, 1, 0] [_, _, _, _] (by decide) ⟨rfl, rfl, rfl, rfl, trivial⟩; clear S8
      refine ws_drawN [_, _, _] [_] rfl (by kernel_rfl) S9 19 rfl ?_
      clear S9
      change WA _ _ _ _ _ _ _ _ _ _ _ _ [_, _, _, _]
      refine wa_takeP (i := 0) (d := 35) 18 rfl (by kernel_rfl) (by kernel_rfl) (by kernel_rfl) rfl rfl rfl (fun w9 => run_move rfl rfl) ?_
      refine wa_takeP (i := 1) (d := 36) 17 rfl (by kernel_rfl) (by kernel_rfl) (by kernel_rfl) rfl rfl rfl (fun w10 => run_neq rfl rfl rfl) ?_
      refine wa_takeP (i := 2) (d := 37) 16 rfl (by kernel_rfl) (by kernel_rfl) (by kernel_rfl) rfl rfl rfl (fun w11 => run_move rfl rfl) ?_
      refine wa_split (t := 37) rfl (fun hg37 => ?_) (fun hg37 => ?_)
      ·replace hg37 := of_decide_eq_true hg37
       have hpt : 0 ≤ (ga rs i).t ∧ (ga rs i).t < (cl2.length : Int) := by omega
       have hl1 := (hQF.2.2 (ga cl2 (ga rs i).f.toNat).toNat (by omega))
       have hv1 := hl1.2 (ga cl2 (ga rs i).o.toNat).toNat (by omega)
       unfold q2 at hv1
       have hfw := fwdQ (q := q) (m := cs.length) hlen2 hRV (show i < rs.length by omega) hb29 hg37
       refine wa_takeP (i := 3) (d := 38) 15 rfl (by kernel_rfl) (by kernel_rfl) (by kernel_rfl) ⟨_, _, _, rfl, rfl, rfl, rfl⟩ rfl rfl (fun w12 => run_move rfl rfl) ?_
       refine wa_takeP (i := 4) (d := 39) 14 rfl (by kernel_rfl) (by kernel_rfl) (by kernel_rfl) ⟨_, _, _, rfl, rfl, rfl, rfl⟩ rfl rfl (fun w13 => run_fieldAddr rfl rfl Try.underlying101 rfl (ce3) (nf3)) ?_
       refine wa_take (i := 5) (d := 40) 13 rfl (by kernel_rfl) (by kernel_rfl) (by kernel_rfl) ⟨_, _, _, rfl, rfl, rfl, rfl⟩ rfl rfl (fun M6 N6 w14 hle8 S15 => .inl (run_load1 rfl rfl Try.underlying3 rfl (S15.suf.boxc (i := 0) rfl rfl))) ?_
       refine wa_takeP (i := 6) (d := 41) 12 rfl (by kernel_rfl) (by kernel_rfl) (by kernel_rfl) ⟨_, _, _, rfl, rfl, rfl, rfl⟩ rfl rfl (fun w15 => run_move rfl rfl) ?_
       refine wa_takeP (i := 7) (d := 42) 11 rfl (by kernel_rfl) (by kernel_rfl) (by kernel_rfl) ⟨_, _, _, rfl, rfl, rfl, rfl⟩ rfl rfl (fun w16 => run_nilCheck rfl rfl) ?_
       refine wa_takeP (i := 8) (d := 43) 10 rfl (by kernel_rfl) (by kernel_rfl) (by kernel_rfl) ⟨_, _, _, rfl, rfl, rfl, rfl⟩ rfl rfl (fun w17 => run_fieldAddr rfl rfl Try.underlying99 rfl (ce34) (nf34)) ?_
       refine wa_take (i := 9) (d := 44) 9 rfl (by kernel_rfl) (by kernel_rfl) (by kernel_rfl) ⟨_, _, _, rfl, rfl, rfl, rfl⟩ rfl rfl (fun M10 N10 w18 hle12 S19 => .inl (run_load1 rfl rfl Try.underlying34 rfl ((hkb.mono (Hp.un_mono hle12 S19.mx)).cell S19.um rfl))) ?_
       refine wa_takeP (i := 10) (d := 45) 8 rfl (by kernel_rfl) (by kernel_rfl) (by kernel_rfl) ⟨_, _, _, rfl, rfl, rfl, rfl⟩ rfl rfl (fun w19 => run_move rfl rfl) ?_
       refine wa_take (i := 11) (d := 46) 7 rfl (by kernel_rfl) (by kernel_rfl) (by kernel_rfl) ⟨_, _, _, rfl, rfl, rfl, rfl⟩ rfl rfl (fun M12 N12 w20 hle14 S21 => .inl (run_indexM (C := (cdV 33)) ((ga cl2 (((ga rs i).f).toNat)).toNat) rfl rfl rfl sl34 (by first | rfl | omega) (hq.mono (Hp.un_mono hle14 S21.mx)) (by first | omega | (simp only [lens]; omega)))) ?_
       obtain ⟨hn1, hr1⟩ := hdq.2 ((ga cl2 (((ga rs i).f).toNat)).toNat) (by first | omega | (simp only [lens]; omega))
       have rmhr1 : (ga q ((ga cl2 (((ga rs i).f).toNat)).toNat)).length * 8 ≤ 140737488355328 := hr1.room
       refine wa_take (i := 12) (d := 47) 6 rfl (by kernel_rfl) (by kernel_rfl) (by kernel_rfl) ⟨_, _, _, rfl, rfl, rfl, rfl⟩ rfl rfl (fun M13 N13 w21 hle15 S22 => .inl (run_load1 rfl rfl Try.underlying33 rfl ((hq.mono (Hp.un_mono hle15 S22.mx)).cell S22.um (i := (ga cl2 (((ga rs i).f).toNat)).toNat) (by first | omega | (simp only [lens]; omega)) 0 rfl (congrArg (fun n => some (Value.slice _ n _)) hn1)))) ?_
       refine wa_takeP (i := 13) (d := 48) 5 rfl (by kernel_rfl) (by kernel_rfl) (by kernel_rfl) ⟨_, _, _, rfl, rfl, rfl, rfl⟩ rfl rfl (fun w22 => run_move rfl rfl) ?_
       refine wa_take (i := 14) (d := 49) 4 rfl (by kernel_rfl) (by kernel_rfl) (by kernel_rfl) ⟨_, _, _, rfl, rfl, rfl, rfl⟩ rfl rfl (fun M15 N15 w23 hle17 S24 => .inl (run_indexM (C := cdInt) ((ga cl2 (((ga rs i).o).toNat)).toNat) rfl rfl rfl sl33 (by first | rfl | omega) (hr1.mono (Hp.un_mono hle17 S24.mx)) (by first | omega | (simp only [lens]; omega)))) ?_
       refine wa_take (i := 15) (d := 50) 3 rfl (by kernel_rfl) (by kernel_rfl) (by kernel_rfl) ⟨_, _, _, rfl, rfl, rfl, rfl⟩ rfl rfl (fun M16 N16 w24 hle18 S25 => .inl (run_load1 rfl rfl Try.underlying3 rfl ((hr1.mono (Hp.un_mono hle18 S25.mx)).cell S25.um (i := (ga cl2 (((ga rs i).o).toNat)).toNat) (by first | omega | (simp only [lens]; omega)) 0 rfl rfl))) ?_
       refine wa_only (i := 16) 2 rfl (by kernel_rfl) ⟨_, _, _, rfl, rfl, rfl, rfl⟩ rfl (fun w26 S27 => ?_)
       have S28 := S27.pick [0, 1, 2, 3] [_, _, _, _] (by decide) ⟨rfl, rfl, rfl, rfl, trivial⟩; clear S27
       have S29 : SH _ _ _ (Rs.bun [_, _, _] :: [_]) := SH.bunC (A := [_, _, _]) (B := [_]) S28; clear S28
       have S30 : SH _ _ _ [_, _] := S29.less (i := 0) rfl
       have hcall1 := give_i ((ga rs i).t) (ga (ga q ((ga cl2 (((ga rs i).f).toNat)).toNat)) ((ga cl2 (((ga rs i).o).toNat)).toNat)) ag2 cl2 hpt (S29.lend1 (i := 0) rfl); clear S30
       refine (wo_c1F (i := 0) rfl rfl rfl rfl rfl rfl rfl cf111 S29 rfl hcall1 ?_)
       intro vw27 w27 M18 rw27 hle20 S31 hR1; clear S29
       obtain ⟨hMX1, hR1⟩ := hR1
       rw [hMX1] at S31
       obtain ⟨rfl, rfl⟩ := hR1
       replace S31 : SH _ _ _ (Rs.bun [_, _, _] :: [_]) := S31
       have S32 : SH _ _ _ [_, _, _, _] := SH.unbunC (A := [_, _, _]) (B := [_]) S31; clear S31
       refine LeftW.grow [_, _, _] (Hp.le_refl _) S32 ?_; clear S32
       change WA _ _ _ _ _ _ _ _ _ _ _ _ [_, _, _, _]
       refine wa_takeP (i := 17) (d := 52) 1 rfl (by kernel_rfl) (by kernel_rfl) (by kernel_rfl) ⟨_, _, _, rfl, rfl, rfl, rfl⟩ rfl rfl (fun w28 => run_not rfl rfl) ?_
       refine wa_takeP (i := 18) (d := 53) 0 rfl (by kernel_rfl) (by kernel_rfl) (by kernel_rfl) rfl rfl rfl (fun w29 => run_pickT rfl rfl rfl) ?_
       refine wa_end (by kernel_rfl) (fun w30 S35 => ?_)
       refine nm_sub [(0, _), (3, _), (5, _), (6, _), (17, _), (18, _), (19, _), (8, _), (9, _), (53, _)] ⟨rfl, rfl, rfl, rfl, rfl, rfl, rfl, rfl, rfl, rfl, trivial⟩ ?_
       refine nm_thn ?_
       refine ws_condN follow_n51 follow_n52 rfl rfl rfl rfl (fun hb53 => ?_) (fun hb53 => ?_)
       ·simp only [Bool.and_eq_true, Bool.or_eq_true, Bool.and_eq_false_iff, Bool.or_eq_false_iff, decide_eq_true_eq, decide_eq_false_iff_not, Bool.not_eq_true', Bool.not_eq_false'] at hb53
        refine ws_seqN follow_n53 follow_n54 rfl rfl rfl ?_
        refine ws_region rfl ?_
        refine wla 0 1 rfl rfl rfl rfl rfl rfl rfl ?_
        refine wl_end rfl ?_
        refine nm_sub [(4, _)] ⟨rfl, trivial⟩ ?_
        refine nm_thn ?_
        refine ws_ret hC [_] rfl rfl ⟨rfl, trivial⟩ ?_
        exact ⟨_, rfl, _, _, Hp.le_refl _, S35.pick [1] [_] (by decide) ⟨rfl, trivial⟩, ⟨rfl, gvC cl2 (ga rs i).t.toNat (ga (ga q (ga cl2 (ga rs i).f.toNat).toNat) (ga cl2 (ga rs i).o.toNat).toNat), false, rfl, ⟨(by rw [gvC_len]; exact hlen2), fun h => (by cases h), fun _ => hF2.bad (by omega) hfw (by first | exact hb53 | simpa [q2] using hb53)⟩, by rw [hvb, hva]⟩⟩
       ·simp only [Bool.and_eq_true, Bool.or_eq_true, Bool.and_eq_false_iff, Bool.or_eq_false_iff, decide_eq_true_eq, decide_eq_false_iff_not, Bool.not_eq_true', Bool.not_eq_false'] at hb53
        refine ws_skip rfl ?_
        refine nm_sub [(0, _), (3, _), (5, _), (6, _), (17, _), (18, _), (19, _), (8, _), (9, _)] ⟨rfl, rfl, rfl, rfl, rfl, rfl, rfl, rfl, rfl, trivial⟩ ?_
        refine nm_thn ?_
        refine ws_seqN follow_n55 follow_n56 rfl rfl rfl ?_
        have hF3 : FolI q rs cs (gvC cl2 (ga rs i).t.toNat (ga (ga q (ga cl2 (ga rs i).f.toNat).toNat) (ga cl2 (ga rs i).o.toNat).toNat)) := hF2.give (by omega) hv1 hfw
        have hP3 : PasI cl1 (gvC cl2 (ga rs i).t.toNat (ga (ga q (ga cl2 (ga rs i).f.toNat).toNat) (ga cl2 (ga rs i).o.toNat).toNat)) (gvA cl2 (ga rs i).t.toNat ag2) := hP2.give (by omega) (by omega)
        obtain ⟨cl3, hc3⟩ : ∃ cl3, cl3 = gvC cl2 (ga rs i).t.toNat (ga (ga q (ga cl2 (ga rs i).f.toNat).toNat) (ga cl2 (ga rs i).o.toNat).toNat) := ⟨_, rfl⟩
        obtain ⟨ag3, ha3⟩ : ∃ ag3, ag3 = gvA cl2 (ga rs i).t.toNat ag2 := ⟨_, rfl⟩
        rw [← hc3] at hF3 hP3 S35
        rw [← ha3] at hP3 S35
        have ho3 : ga cl3 (ga rs i).o.toNat = ga cl2 (ga rs i).o.toNat := by rw [hc3]; exact gvC_keep hb29
        have hlen3 := hF3.1
        have htv := hF3.2.1 (ga rs i).t.toNat (by omega)
        refine ws_region rfl ?_
        refine wlo 0 1 rfl rfl rfl (wo_run rfl rfl (run_load1 rfl rfl Try.underlying33 rfl (S35.boxc (i := 0) rfl rfl)) ?_)
        refine wlo 1 2 rfl rfl rfl (wo_run rfl rfl (run_fieldAddr rfl rfl Try.underlying101 rfl (ce3) (nf3)) ?_)
        refine wlo 2 3 rfl rfl rfl (wo_run rfl rfl (run_load1 rfl rfl Try.underlying3 rfl (S35.boxc (i := 3) rfl rfl)) ?_)
        refine wlo 3 4 rfl rfl rfl (wo_run rfl rfl (run_indexR (C := cdInt) (i := 1) (((ga rs i).t).toNat) rfl rfl rfl sl33 S35 rfl (by first | rfl | omega) (by first | omega | (simp only [lens]; omega))) ?_)
        refine wlo 4 5 rfl rfl rfl (wo_run rfl rfl (run_load1 rfl rfl Try.underlying3 rfl (S35.rowc (i := 1) (e := ((ga rs i).t).toNat) (j := 0) rfl (by first | omega | (simp only [lens]; omega)) rfl rfl)) ?_)
        refine wla 5 6 rfl rfl rfl rfl rfl rfl rfl ?_
        refine wl_end rfl ?_
        refine nm_sub [(0, _), (3, _), (5, _), (6, _), (17, _), (18, _), (19, _), (8, _), (9, _), (11, _)] ⟨rfl, rfl, rfl, rfl, rfl, rfl, rfl, rfl, rfl, rfl, trivial⟩ ?_
        refine nm_thn ?_
        refine ws_seqN follow_n57 follow_n58 rfl rfl rfl ?_
        have S36 := S35.pick [0, 1, 2, 3] [_, _, _, _] (by decide) ⟨rfl, rfl, rfl, rfl, trivial⟩; clear S35
        refine ws_drawN [_, _, _] [_] rfl (by kernel_rfl) S36 13 rfl ?_
        clear S36
        change WA _ _ _ _ _ _ _ _ _ _ _ _ [_, _, _, _]
        refine wa_takeP (i := 0) (d := 59) 12 rfl (by kernel_rfl) (by kernel_rfl) (by kernel_rfl) rfl rfl rfl (fun w31 => run_move rfl rfl) ?_
        refine wa_takeP (i := 1) (d := 60) 11 rfl (by kernel_rfl) (by kernel_rfl) (by kernel_rfl) rfl rfl rfl (fun w32 => run_neq rfl rfl rfl) ?_
        refine wa_takeP (i := 2) (d := 61) 10 rfl (by kernel_rfl) (by kernel_rfl) (by kernel_rfl) rfl rfl rfl (fun w33 => run_move rfl rfl) ?_
        refine wa_split (t := 61) rfl (fun hg61 => ?_) (fun hg61 => ?_)
        ·replace hg61 := of_decide_eq_true hg61
         have hpf : 0 ≤ (ga rs i).f ∧ (ga rs i).f < (cl3.length : Int) := by omega
         have hbw := bwdQ (q := q) (m := cs.length) hQF hQK hF3.2.1 hlen3 hRV (show i < rs.length by omega) (by rw [ho3]; exact hb29) hg61
         rw [ho3] at hbw
         have hbv := (bkQ_spec hQK (t := ga cl3 (ga rs i).t.toNat) (o := (ga cl2 (ga rs i).o.toNat).toNat) (by omega) (by omega)).1
         refine wa_takeP (i := 3) (d := 62) 9 rfl (by kernel_rfl) (by kernel_rfl) (by kernel_rfl) ⟨_, _, _, rfl, rfl, rfl, rfl⟩ rfl rfl (fun w34 => run_move rfl rfl) ?_
         refine wa_takeP (i := 4) (d := 63) 8 rfl (by kernel_rfl) (by kernel_rfl) (by kernel_rfl) ⟨_, _, _, rfl, rfl, rfl, rfl⟩ rfl rfl (fun w35 => run_fieldAddr rfl rfl Try.underlying101 rfl (ce3) (nf3)) ?_
         refine wa_take (i := 5) (d := 64) 7 rfl (by kernel_rfl) (by kernel_rfl) (by kernel_rfl) ⟨_, _, _, rfl, rfl, rfl, rfl⟩ rfl rfl (fun M26 N25 w36 hle28 S42 => .inl (run_load1 rfl rfl Try.underlying3 rfl (S42.suf.boxc (i := 0) rfl rfl))) ?_
         refine wa_takeP (i := 6) (d := 65) 6 rfl (by kernel_rfl) (by kernel_rfl) (by kernel_rfl) ⟨_, _, _, rfl, rfl, rfl, rfl⟩ rfl rfl (fun w37 => run_move rfl rfl) ?_
         refine wa_takeP (i := 7) (d := 66) 5 rfl (by kernel_rfl) (by kernel_rfl) (by kernel_rfl) ⟨_, _, _, rfl, rfl, rfl, rfl⟩ rfl rfl (fun w38 => run_move rfl rfl) ?_
         refine wa_takeP (i := 8) (d := 67) 4 rfl (by kernel_rfl) (by kernel_rfl) (by kernel_rfl) ⟨_, _, _, rfl, rfl, rfl, rfl⟩ rfl rfl (fun w39 => run_move rfl rfl) ?_
         refine wa_take (i := 9) (d := 68) 3 rfl (by kernel_rfl) (by kernel_rfl) (by kernel_rfl) ⟨_, _, _, rfl, rfl, rfl, rfl⟩ rfl rfl (fun M30 N29 w40 hle32 S46 => yield_cq rfl rfl rfl rfl rfl cf112 S46 (back_q q rs (ga cl3 (((ga rs i).t).toNat)) (ga cl2 (((ga rs i).o).toNat)) ((hkb.mono (Hp.un_mono hle32 S46.mx)).mono S46.un_XH) ((hq.mono (Hp.un_mono hle32 S46.mx)).mono S46.un_XH) ((hdq.mono (Hp.un_mono hle32 S46.mx)).mono S46.un_XH) ((hru.mono (Hp.un_mono hle32 S46.mx)).mono S46.un_XH) hQF hQK (by omega) (by omega) S46.lend)) ?_
         refine wa_only (i := 10) 2 rfl (by kernel_rfl) ⟨_, _, _, rfl, rfl, rfl, rfl⟩ rfl (fun w42 S48 => ?_)
         have S49 := S48.pick [0, 1, 2, 3] [_, _, _, _] (by decide) ⟨rfl, rfl, rfl, rfl, trivial⟩; clear S48
         have S50 : SH _ _ _ (Rs.bun [_, _, _] :: [_]) := SH.bunC (A := [_, _, _]) (B := [_]) S49; clear S49
         have S51 : SH _ _ _ [_, _] := S50.less (i := 0) rfl
         have hcall2 := give_i ((ga rs i).f) ((bkQ q (ga cl3 (((ga rs i).t).toNat)) (ga cl2 (((ga rs i).o).toNat)).toNat : Nat) : Int) ag3 cl3 hpf (S50.lend1 (i := 0) rfl); clear S51
         refine (wo_c1F (i := 0) rfl rfl rfl rfl rfl rfl rfl cf111 S50 rfl hcall2 ?_)
         intro vw43 w43 M32 rw43 hle34 S52 hR2; clear S50
         obtain ⟨hMX2, hR2⟩ := hR2
         rw [hMX2] at S52
         obtain ⟨rfl, rfl⟩ := hR2
         replace S52 : SH _ _ _ (Rs.bun [_, _, _] :: [_]) := S52
         have S53 : SH _ _ _ [_, _, _, _] := SH.unbunC (A := [_, _, _]) (B := [_]) S52; clear S52
         refine LeftW.grow [_, _, _] (Hp.le_refl _) S53 ?_; clear S53
         change WA _ _ _ _ _ _ _ _ _ _ _ _ [_, _, _, _]
         refine wa_takeP (i := 11) (d := 70) 1 rfl (by kernel_rfl) (by kernel_rfl) (by kernel_rfl) ⟨_, _, _, rfl, rfl, rfl, rfl⟩ rfl rfl (fun w44 => run_not rfl rfl) ?_
         refine wa_takeP (i := 12) (d := 71) 0 rfl (by kernel_rfl) (by kernel_rfl) (by kernel_rfl) rfl rfl rfl (fun w45 => run_pickT rfl rfl rfl) ?_
         refine wa_end (by kernel_rfl) (fun w46 S56 => ?_)
         refine nm_sub [(0, _), (3, _), (5, _), (6, _), (17, _), (18, _), (19, _), (71, _)] ⟨rfl, rfl, rfl, rfl, rfl, rfl, rfl, rfl, trivial⟩ ?_
         refine nm_thn ?_
         refine ws_condN follow_n59 follow_n60 rfl rfl rfl rfl (fun hb71 => ?_) (fun hb71 => ?_)
         ·simp only [Bool.and_eq_true, Bool.or_eq_true, Bool.and_eq_false_iff, Bool.or_eq_false_iff, decide_eq_true_eq, decide_eq_false_iff_not, Bool.not_eq_true', Bool.not_eq_false'] at hb71
          refine ws_seqN follow_n61 follow_n62 rfl rfl rfl ?_
          refine ws_region rfl ?_
          refine wla 0 1 rfl rfl rfl rfl rfl rfl rfl ?_
          refine wl_end rfl ?_
          refine nm_sub [(4, _)] ⟨rfl, trivial⟩ ?_
          refine nm_thn ?_
          refine ws_ret hC [_] rfl rfl ⟨rfl, trivial⟩ ?_
          exact ⟨_, rfl, _, _, Hp.le_refl _, S56.pick [1] [_] (by decide) ⟨rfl, trivial⟩, ⟨rfl, gvC cl3 (ga rs i).f.toNat ((bkQ q (ga cl3 (ga rs i).t.toNat) (ga cl2 (ga rs i).o.toNat).toNat : Nat) : Int), false, rfl, ⟨(by rw [gvC_len]; exact hlen3), fun h => (by cases h), fun _ => hF3.bad (by omega) hbw (by first | exact hb71 | simpa using hb71)⟩, by rw [hvb, hva]⟩⟩
         ·simp only [Bool.and_eq_true, Bool.or_eq_true, Bool.and_eq_false_iff, Bool.or_eq_false_iff, decide_eq_true_eq, decide_eq_false_iff_not, Bool.not_eq_true', Bool.not_eq_false'] at hb71
          refine ws_skip rfl ?_
          refine nm_blk ?_
          refine nm_sub [(0, _), (3, _), (5, _), (6, _), (17, _), (18, _), (19, _)] ⟨rfl, rfl, rfl, rfl, rfl, rfl, rfl, trivial⟩ ?_
          refine nm_thn ?_
          have hF4 : FolI q rs cs (gvC cl3 (ga rs i).f.toNat ((bkQ q (ga cl3 (ga rs i).t.toNat) (ga cl2 (ga rs i).o.toNat).toNat : Nat) : Int)) := hF3.give (by omega) (by omega) hbw
          have hP4 : PasI cl1 (gvC cl3 (ga rs i).f.toNat ((bkQ q (ga cl3 (ga rs i).t.toNat) (ga cl2 (ga rs i).o.toNat).toNat : Nat) : Int)) (gvA cl3 (ga rs i).f.toNat ag3) := hP3.give (by omega) (by omega)
          have hg9 : gvB cl2 (ga rs i).t.toNat (ga (ga q (ga cl2 (ga rs i).f.toNat).toNat) (ga cl2 (ga rs i).o.toNat).toNat) = true := by first | exact hb53 | simpa using hb53
          have hclo9 : gvA cl3 (ga rs i).f.toNat ag3 = false → ∀ j, j < i + 1 → CloQ q (ga rs j) (gvC cl3 (ga rs i).f.toNat ((bkQ q (ga cl3 (ga rs i).t.toNat) (ga cl2 (ga rs i).o.toNat).toNat : Nat) : Int)) := fun h9 j hj => by obtain ⟨k1, k2, k3⟩ := gvA_f (c := ((bkQ q (ga cl3 (ga rs i).t.toNat) (ga cl2 (ga rs i).o.toNat).toNat : Nat) : Int)) h9; rw [ha3] at k2; obtain ⟨k4, k5, k6⟩ := gvA_f (c := (ga (ga q (ga cl2 (ga rs i).f.toNat).toNat) (ga cl2 (ga rs i).o.toNat).toNat)) k2; rw [k3, hc3, k6]; by_cases e : j = i; (subst e; exact .inr ⟨fun _ => (gvB_t hg9 k4), fun _ => hg37⟩); exact hclo2 k5 j (by omega)
          refine ws_region rfl ?_
          refine wlo 0 1 rfl rfl rfl (wo_run rfl rfl (run_add rfl rfl rfl (by first | omega | (simp only [lens]; omega))) ?_)
          refine wlm 1 2 rfl rfl rfl rfl rfl rfl rfl ?_
          refine wl_end rfl ?_
          refine nm_lp ?_
          intro ax_ hax_
          refine ⟨_, ?hq4m, ⟨i + 1, gvC cl3 (ga rs i).f.toNat ((bkQ q (ga cl3 (ga rs i).t.toNat) (ga cl2 (ga rs i).o.toNat).toNat : Nat) : Int), gvA cl3 (ga rs i).f.toNat ag3, _, rfl, hax_.sub ⟨rfl, rfl, rfl, rfl, rfl, rfl, rfl, trivial⟩, S56.pick [2, 0, 1] [_, _, _] (by decide) ⟨rfl, rfl, rfl, trivial⟩, ?hq4f0, ?hq4f1, ?hq4f2, ?hq4f3, ?hq4f4⟩⟩
          case hq4f0 => omega
          case hq4f1 => exact hvb
          case hq4f2 => assumption
          case hq4f3 => assumption
          case hq4f4 => exact hclo9
          case hq4m => omega
        ·replace hg61 := of_decide_eq_false hg61
         refine wa_no (i := 3) (d := 62) 9 rfl (by kernel_rfl) (by kernel_rfl) (by kernel_rfl) ⟨_, _, _, rfl, rfl, rfl, rfl⟩ rfl rfl ?_
         refine wa_no (i := 4) (d := 63) 8 rfl (by kernel_rfl) (by kernel_rfl) (by kernel_rfl) ⟨_, _, _, rfl, rfl, rfl, rfl⟩ rfl rfl ?_
         refine wa_no (i := 5) (d := 64) 7 rfl (by kernel_rfl) (by kernel_rfl) (by kernel_rfl) ⟨_, _, _, rfl, rfl, rfl, rfl⟩ rfl rfl ?_
         refine wa_no (i := 6) (d := 65) 6 rfl (by kernel_rfl) (by kernel_rfl) (by kernel_rfl) ⟨_, _, _, rfl, rfl, rfl, rfl⟩ rfl rfl ?_
         refine wa_no (i := 7) (d := 66) 5 rfl (by kernel_rfl) (by kernel_rfl) (by kernel_rfl) ⟨_, _, _, rfl, rfl, rfl, rfl⟩ rfl rfl ?_
         refine wa_no (i := 8) (d := 67) 4 rfl (by kernel_rfl) (by kernel_rfl) (by kernel_rfl) ⟨_, _, _, rfl, rfl, rfl, rfl⟩ rfl rfl ?_
         refine wa_no (i := 9) (d := 68) 3 rfl (by kernel_rfl) (by kernel_rfl) (by kernel_rfl) ⟨_, _, _, rfl, rfl, rfl, rfl⟩ rfl rfl ?_
         refine wa_no (i := 10) (d := 69) 2 rfl (by kernel_rfl) (by kernel_rfl) (by kernel_rfl) ⟨_, _, _, rfl, rfl, rfl, rfl⟩ rfl rfl ?_
         refine wa_no (i := 11) (d := 70) 1 rfl (by kernel_rfl) (by kernel_rfl) (by kernel_rfl) ⟨_, _, _, rfl, rfl, rfl, rfl⟩ rfl rfl ?_
         refine wa_takeP (i := 12) (d := 71) 0 rfl (by kernel_rfl) (by kernel_rfl) (by kernel_rfl) rfl rfl rfl (fun w47 => run_pickF rfl rfl rfl) ?_
         refine wa_end (by kernel_rfl) (fun w48 S58 => ?_)
         refine nm_sub [(0, _), (3, _), (5, _), (6, _), (17, _), (18, _), (19, _), (71, _)] ⟨rfl, rfl, rfl, rfl, rfl, rfl, rfl, rfl, trivial⟩ ?_
         refine nm_thn ?_
         refine ws_condFN follow_n60 rfl rfl rfl ?_
         refine ws_skip rfl ?_
         refine nm_blk ?_
         refine nm_sub [(0, _), (3, _), (5, _), (6, _), (17, _), (18, _), (19, _)] ⟨rfl, rfl, rfl, rfl, rfl, rfl, rfl, trivial⟩ ?_
         refine nm_thn ?_
         have hg9 : gvB cl2 (ga rs i).t.toNat (ga (ga q (ga cl2 (ga rs i).f.toNat).toNat) (ga cl2 (ga rs i).o.toNat).toNat) = true := by first | exact hb53 | simpa using hb53
         have hclo9 : ag3 = false → ∀ j, j < i + 1 → CloQ q (ga rs j) (cl3) := fun h9 j hj => by rw [ha3] at h9; obtain ⟨k4, k5, k6⟩ := gvA_f (c := (ga (ga q (ga cl2 (ga rs i).f.toNat).toNat) (ga cl2 (ga rs i).o.toNat).toNat)) h9; rw [hc3, k6]; by_cases e : j = i; (subst e; exact .inr ⟨fun _ => (gvB_t hg9 k4), fun _ => hg37⟩); exact hclo2 k5 j (by omega)
         refine ws_region rfl ?_
         refine wlo 0 1 rfl rfl rfl (wo_run rfl rfl (run_add rfl rfl rfl (by first | omega | (simp only [lens]; omega))) ?_)
         refine wlm 1 2 rfl rfl rfl rfl rfl rfl rfl ?_
         refine wl_end rfl ?_
         refine nm_lp ?_
         intro ax_ hax_
         refine ⟨_, ?hq5m, ⟨i + 1, cl3, ag3, _, rfl, hax_.sub ⟨rfl, rfl, rfl, rfl, rfl, rfl, rfl, trivial⟩, S58.pick [2, 0, 1] [_, _, _] (by decide) ⟨rfl, rfl, rfl, trivial⟩, ?hq5f0, ?hq5f1, ?hq5f2, ?hq5f3, ?hq5f4⟩⟩
         case hq5f0 => omega
         case hq5f1 => exact hvb
         case hq5f2 => assumption
         case hq5f3 => assumption
         case hq5f4 => exact hclo9
         case hq5m => omega
      ·replace hg37 := of_decide_eq_false hg37
       refine wa_no (i := 3) (d := 38) 15 rfl (by kernel_rfl) (by kernel_rfl) (by kernel_rfl) ⟨_, _, _, rfl, rfl, rfl, rfl⟩ rfl rfl ?_
       refine wa_no (i := 4) (d := 39) 14 rfl (by kernel_rfl) (by kernel_rfl) (by kernel_rfl) ⟨_, _, _, rfl, rfl, rfl, rfl⟩ rfl rfl ?_
       refine wa_no (i := 5) (d := 40) 13 rfl (by kernel_rfl) (by kernel_rfl) (by kernel_rfl) ⟨_, _, _, rfl, rfl, rfl, rfl⟩ rfl rfl ?_
       refine wa_no (i := 6) (d := 41) 12 rfl (by kernel_rfl) (by kernel_rfl) (by kernel_rfl) ⟨_, _, _, rfl, rfl, rfl, rfl⟩ rfl rfl ?_
       refine wa_no (i := 7) (d := 42) 11 rfl (by kernel_rfl) (by kernel_rfl) (by kernel_rfl) ⟨_, _, _, rfl, rfl, rfl, rfl⟩ rfl rfl ?_
       refine wa_no (i := 8) (d := 43) 10 rfl (by kernel_rfl) (by kernel_rfl) (by kernel_rfl) ⟨_, _, _, rfl, rfl, rfl, rfl⟩ rfl rfl ?_
       refine wa_no (i := 9) (d := 44) 9 rfl (by kernel_rfl) (by kernel_rfl) (by kernel_rfl) ⟨_, _, _, rfl, rfl, rfl, rfl⟩ rfl rfl ?_
       refine wa_no (i := 10) (d := 45) 8 rfl (by kernel_rfl) (by kernel_rfl) (by kernel_rfl) ⟨_, _, _, rfl, rfl, rfl, rfl⟩ rfl rfl ?_
       refine wa_no (i := 11) (d := 46) 7 rfl (by kernel_rfl) (by kernel_rfl) (by kernel_rfl) ⟨_, _, _, rfl, rfl, rfl, rfl⟩ rfl rfl ?_
       refine wa_no (i := 12) (d := 47) 6 rfl (by kernel_rfl) (by kernel_rfl) (by kernel_rfl) ⟨_, _, _, rfl, rfl, rfl, rfl⟩ rfl rfl ?_
       refine wa_no (i := 13) (d := 48) 5 rfl (by kernel_rfl) (by kernel_rfl) (by kernel_rfl) ⟨_, _, _, rfl, rfl, rfl, rfl⟩ rfl rfl ?_
       refine wa_no (i := 14) (d := 49) 4 rfl (by kernel_rfl) (by kernel_rfl) (by kernel_rfl) ⟨_, _, _, rfl, rfl, rfl, rfl⟩ rfl rfl ?_
       refine wa_no (i := 15) (d := 50) 3 rfl (by kernel_rfl) (by kernel_rfl) (by kernel_rfl) ⟨_, _, _, rfl, rfl, rfl, rfl⟩ rfl rfl ?_
       refine wa_no (i := 16) (d := 51) 2 rfl (by kernel_rfl) (by kernel_rfl) (by kernel_rfl) ⟨_, _, _, rfl, rfl, rfl, rfl⟩ rfl rfl ?_
       refine wa_no (i := 17) (d := 52) 1 rfl (by kernel_rfl) (by kernel_rfl) (by kernel_rfl) ⟨_, _, _, rfl, rfl, rfl, rfl⟩ rfl rfl ?_
       refine wa_takeP (i := 18) (d := 53) 0 rfl (by kernel_rfl) (by kernel_rfl) (by kernel_rfl) rfl rfl rfl (fun w49 => run_pickF rfl rfl rfl) ?_
       refine wa_end (by kernel_rfl) (fun w50 S60 => ?_)
       refine nm_sub [(0, _), (3, _), (5, _), (6, _), (17, _), (18, _), (19, _), (8, _), (9, _), (53, _)] ⟨rfl, rfl, rfl, rfl, rfl, rfl, rfl, rfl, rfl, rfl, trivial⟩ ?_
       refine nm_thn ?_
       refine ws_condFN follow_n52 rfl rfl rfl ?_
       refine ws_skip rfl ?_
       refine nm_sub [(0, _), (3, _), (5, _), (6, _), (17, _), (18, _), (19, _), (8, _), (9, _)] ⟨rfl, rfl, rfl, rfl, rfl, rfl, rfl, rfl, rfl, trivial⟩ ?_
       refine nm_thn ?_
       refine ws_seqN follow_n55 follow_n56 rfl rfl rfl ?_
       have hF3 := hF2
       have hP3 := hP2
       have ho3 : ga cl2 (ga rs i).o.toNat = ga cl2 (ga rs i).o.toNat := rfl
       have hlen3 := hF3.1
       have htv := hF3.2.1 (ga rs i).t.toNat (by omega)
       refine ws_region rfl ?_
       refine wlo 0 1 rfl rfl rfl (wo_run rfl rfl (run_load1 rfl rfl Try.underlying33 rfl (S60.boxc (i := 0) rfl rfl)) ?_)
       refine wlo 1 2 rfl rfl rfl (wo_run rfl rfl (run_fieldAddr rfl rfl Try.underlying101 rfl (ce3) (nf3)) ?_)
       refine wlo 2 3 rfl rfl rfl (wo_run rfl rfl (run_load1 rfl rfl Try.underlying3 rfl (S60.boxc (i := 3) rfl rfl)) ?_)
       refine wlo 3 4 rfl rfl rfl (wo_run rfl rfl (run_indexR (C := cdInt) (i := 1) (((ga rs i).t).toNat) rfl rfl rfl sl33 S60 rfl (by first | rfl | omega) (by first | omega | (simp only [lens]; omega))) ?_)
       refine wlo 4 5 rfl rfl rfl (wo_run rfl rfl (run_load1 rfl rfl Try.underlying3 rfl (S60.rowc (i := 1) (e := ((ga rs i).t).toNat) (j := 0) rfl (by first | omega | (simp only [lens]; omega)) rfl rfl)) ?_)
       refine wla 5 6 rfl rfl rfl rfl rfl rfl rfl ?_
       refine wl_end rfl ?_
       refine nm_sub [(0, _), (3, _), (5, _), (6, _), (17, _), (18, _), (19, _), (8, _), (9, _), (11, _)] ⟨rfl, rfl, rfl, rfl, rfl, rfl, rfl, rfl, rfl, rfl, trivial⟩ ?_
       refine nm_thn ?_
       refine ws_seqN follow_n57 follow_n58 rfl rfl rfl ?_
       have S61 := S60.pick [0, 1, 2, 3] [_, _, _, _] (by decide) ⟨rfl, rfl, rfl, rfl, trivial⟩; clear S60
       refine ws_drawN [_, _, _] [_] rfl (by kernel_rfl) S61 13 rfl ?_
       clear S61
       change WA _ _ _ _ _ _ _ _ _ _ _ _ [_, _, _, _]
       refine wa_takeP (i := 0) (d := 59) 12 rfl (by kernel_rfl) (by kernel_rfl) (by kernel_rfl) rfl rfl rfl (fun w51 => run_move rfl rfl) ?_
       refine wa_takeP (i := 1) (d := 60) 11 rfl (by kernel_rfl) (by kernel_rfl) (by kernel_rfl) rfl rfl rfl (fun w52 => run_neq rfl rfl rfl) ?_
       refine wa_takeP (i := 2) (d := 61) 10 rfl (by kernel_rfl) (by kernel_rfl) (by kernel_rfl) rfl rfl rfl (fun w53 => run_move rfl rfl) ?_
       refine wa_split (t := 61) rfl (fun hg61 => ?_) (fun hg61 => ?_)
       ·replace hg61 := of_decide_eq_true hg61
        have hpf : 0 ≤ (ga rs i).f ∧ (ga rs i).f < (cl2.length : Int) := by omega
        have hbw := bwdQ (q := q) (m := cs.length) hQF hQK hF3.2.1 hlen3 hRV (show i < rs.length by omega) (by rw [ho3]; exact hb29) hg61
        rw [ho3] at hbw
        have hbv := (bkQ_spec hQK (t := ga cl2 (ga rs i).t.toNat) (o := (ga cl2 (ga rs i).o.toNat).toNat) (by omega) (by omega)).1
        refine wa_takeP (i := 3) (d := 62) 9 rfl (by kernel_rfl) (by kernel_rfl) (by kernel_rfl) ⟨_, _, _, rfl, rfl, rfl, rfl⟩ rfl rfl (fun w54 => run_move rfl rfl) ?_
        refine wa_takeP (i := 4) (d := 63) 8 rfl (by kernel_rfl) (by kernel_rfl) (by kernel_rfl) ⟨_, _, _, rfl, rfl, rfl, rfl⟩ rfl rfl (fun w55 => run_fieldAddr rfl rfl Try.underlying101 rfl (ce3) (nf3)) ?_
        refine wa_take (i := 5) (d := 64) 7 rfl (by kernel_rfl) (by kernel_rfl) (by kernel_rfl) ⟨_, _, _, rfl, rfl, rfl, rfl⟩ rfl rfl (fun M42 N40 w56 hle44 S67 => .inl (run_load1 rfl rfl Try.underlying3 rfl (S67.suf.boxc (i := 0) rfl rfl))) ?_
        refine wa_takeP (i := 6) (d := 65) 6 rfl (by kernel_rfl) (by kernel_rfl) (by kernel_rfl) ⟨_, _, _, rfl, rfl, rfl, rfl⟩ rfl rfl (fun w57 => run_move rfl rfl) ?_
        refine wa_takeP (i := 7) (d := 66) 5 rfl (by kernel_rfl) (by kernel_rfl) (by kernel_rfl) ⟨_, _, _, rfl, rfl, rfl, rfl⟩ rfl rfl (fun w58 => run_move rfl rfl) ?_
        refine wa_takeP (i := 8) (d := 67) 4 rfl (by kernel_rfl) (by kernel_rfl) (by kernel_rfl) ⟨_, _, _, rfl, rfl, rfl, rfl⟩ rfl rfl (fun w59 => run_move rfl rfl) ?_
        refine wa_take (i := 9) (d := 68) 3 rfl (by kernel_rfl) (by kernel_rfl) (by kernel_rfl) ⟨_, _, _, rfl, rfl, rfl, rfl⟩ rfl rfl (fun M46 N44 w60 hle48 S71 => yield_cq rfl rfl rfl rfl rfl cf112 S71 (back_q q rs (ga cl2 (((ga rs i).t).toNat)) (ga cl2 (((ga rs i).o).toNat)) ((hkb.mono (Hp.un_mono hle48 S71.mx)).mono S71.un_XH) ((hq.mono (Hp.un_mono hle48 S71.mx)).mono S71.un_XH) ((hdq.mono (Hp.un_mono hle48 S71.mx)).mono S71.un_XH) ((hru.mono (Hp.un_mono hle48 S71.mx)).mono S71.un_XH) hQF hQK (by omega) (by omega) S71.lend)) ?_
        refine wa_only (i := 10) 2 rfl (by kernel_rfl) ⟨_, _, _, rfl, rfl, rfl, rfl⟩ rfl (fun w62 S73 => ?_)
        have S74 := S73.pick [0, 1, 2, 3] [_, _, _, _] (by decide) ⟨rfl, rfl, rfl, rfl, trivial⟩; clear S73
        have S75 : SH _ _ _ (Rs.bun [_, _, _] :: [_]) := SH.bunC (A := [_, _, _]) (B := [_]) S74; clear S74
        have S76 : SH _ _ _ [_, _] := S75.less (i := 0) rfl
        have hcall3 := give_i ((ga rs i).f) ((bkQ q (ga cl2 (((ga rs i).t).toNat)) (ga cl2 (((ga rs i).o).toNat)).toNat : Nat) : Int) ag2 cl2 hpf (S75.lend1 (i := 0) rfl); clear S76
        refine (wo_c1F (i := 0) rfl rfl rfl rfl rfl rfl rfl cf111 S75 rfl hcall3 ?_)
        intro vw63 w63 M48 rw63 hle50 S77 hR3; clear S75
        obtain ⟨hMX3, hR3⟩ := hR3
        rw [hMX3] at S77
        obtain ⟨rfl, rfl⟩ := hR3
        replace S77 : SH _ _ _ (Rs.bun [_, _, _] :: [_]) := S77
        have S78 : SH _ _ _ [_, _, _, _] := SH.unbunC (A := [_, _, _]) (B := [_]) S77; clear S77
        refine LeftW.grow [_, _, _] (Hp.le_refl _) S78 ?_; clear S78
        change WA _ _ _ _ _ _ _ _ _ _ _ _ [_, _, _, _]
        refine wa_takeP (i := 11) (d := 70) 1 rfl (by kernel_rfl) (by kernel_rfl) (by kernel_rfl) ⟨_, _, _, rfl, rfl, rfl, rfl⟩ rfl rfl (fun w64 => run_not rfl rfl) ?_
        refine wa_takeP (i := 12) (d := 71) 0 rfl (by kernel_rfl) (by kernel_rfl) (by kernel_rfl) rfl rfl rfl (fun w65 => run_pickT rfl rfl rfl) ?_
        refine wa_end (by kernel_rfl) (fun w66 S81 => ?_)
        refine nm_sub [(0, _), (3, _), (5, _), (6, _), (17, _), (18, _), (19, _), (71, _)] ⟨rfl, rfl, rfl, rfl, rfl, rfl, rfl, rfl, trivial⟩ ?_
        refine nm_thn ?_
        refine ws_condN follow_n59 follow_n60 rfl rfl rfl rfl (fun hb71 => ?_) (fun hb71 => ?_)
        ·simp only [Bool.and_eq_true, Bool.or_eq_true, Bool.and_eq_false_iff, Bool.or_eq_false_iff, decide_eq_true_eq, decide_eq_false_iff_not, Bool.not_eq_true', Bool.not_eq_false'] at hb71
         refine ws_seqN follow_n61 follow_n62 rfl rfl rfl ?_
         refine ws_region rfl ?_
         refine wla 0 1 rfl rfl rfl rfl rfl rfl rfl ?_
         refine wl_end rfl ?_
         refine nm_sub [(4, _)] ⟨rfl, trivial⟩ ?_
         refine nm_thn ?_
         refine ws_ret hC [_] rfl rfl ⟨rfl, trivial⟩ ?_
         exact ⟨_, rfl, _, _, Hp.le_refl _, S81.pick [1] [_] (by decide) ⟨rfl, trivial⟩, ⟨rfl, gvC cl2 (ga rs i).f.toNat ((bkQ q (ga cl2 (ga rs i).t.toNat) (ga cl2 (ga rs i).o.toNat).toNat : Nat) : Int), false, rfl, ⟨(by rw [gvC_len]; exact hlen3), fun h => (by cases h), fun _ => hF3.bad (by omega) hbw (by first | exact hb71 | simpa using hb71)⟩, by rw [hvb, hva]⟩⟩
        ·simp only [Bool.and_eq_true, Bool.or_eq_true, Bool.and_eq_false_iff, Bool.or_eq_false_iff, decide_eq_true_eq, decide_eq_false_iff_not, Bool.not_eq_true', Bool.not_eq_false'] at hb71
         refine ws_skip rfl ?_
         refine nm_blk ?_
         refine nm_sub [(0, _), (3, _), (5, _), (6, _), (17, _), (18, _), (19, _)] ⟨rfl, rfl, rfl, rfl, rfl, rfl, rfl, trivial⟩ ?_
         refine nm_thn ?_
         have hF4 : FolI q rs cs (gvC cl2 (ga rs i).f.toNat ((bkQ q (ga cl2 (ga rs i).t.toNat) (ga cl2 (ga rs i).o.toNat).toNat : Nat) : Int)) := hF3.give (by omega) (by omega) hbw
         have hP4 : PasI cl1 (gvC cl2 (ga rs i).f.toNat ((bkQ q (ga cl2 (ga rs i).t.toNat) (ga cl2 (ga rs i).o.toNat).toNat : Nat) : Int)) (gvA cl2 (ga rs i).f.toNat ag2) := hP3.give (by omega) (by omega)
         have hclo9 : gvA cl2 (ga rs i).f.toNat ag2 = false → ∀ j, j < i + 1 → CloQ q (ga rs j) (gvC cl2 (ga rs i).f.toNat ((bkQ q (ga cl2 (ga rs i).t.toNat) (ga cl2 (ga rs i).o.toNat).toNat : Nat) : Int)) := fun h9 j hj => by obtain ⟨k1, k2, k3⟩ := gvA_f (c := ((bkQ q (ga cl2 (ga rs i).t.toNat) (ga cl2 (ga rs i).o.toNat).toNat : Nat) : Int)) h9; exact absurd k1 hg37
         refine ws_region rfl ?_
         refine wlo 0 1 rfl rfl rfl (wo_run rfl rfl (run_add rfl rfl rfl (by first | omega | (simp only [lens]; omega))) ?_)
         refine wlm 1 2 rfl rfl rfl rfl rfl rfl rfl ?_
         refine wl_end rfl ?_
         refine nm_lp ?_
         intro ax_ hax_
         refine ⟨_, ?hq6m, ⟨i + 1, gvC cl2 (ga rs i).f.toNat ((bkQ q (ga cl2 (ga rs i).t.toNat) (ga cl2 (ga rs i).o.toNat).toNat : Nat) : Int), gvA cl2 (ga rs i).f.toNat ag2, _, rfl, hax_.sub ⟨rfl, rfl, rfl, rfl, rfl, rfl, rfl, trivial⟩, S81.pick [2, 0, 1] [_, _, _] (by decide) ⟨rfl, rfl, rfl, trivial⟩, ?hq6f0, ?hq6f1, ?hq6f2, ?hq6f3, ?hq6f4⟩⟩
         case hq6f0 => omega
         case hq6f1 => exact hvb
         case hq6f2 => assumption
         case hq6f3 => assumption
         case hq6f4 => exact hclo9
         case hq6m => omega
       ·replace hg61 := of_decide_eq_false hg61
        refine wa_no (i := 3) (d := 62) 9 rfl (by kernel_rfl) (by kernel_rfl) (by kernel_rfl) ⟨_, _, _, rfl, rfl, rfl, rfl⟩ rfl rfl ?_
        refine wa_no (i := 4) (d := 63) 8 rfl (by kernel_rfl) (by kernel_rfl) (by kernel_rfl) ⟨_, _, _, rfl, rfl, rfl, rfl⟩ rfl rfl ?_
        refine wa_no (i := 5) (d := 64) 7 rfl (by kernel_rfl) (by kernel_rfl) (by kernel_rfl) ⟨_, _, _, rfl, rfl, rfl, rfl⟩ rfl rfl ?_
        refine wa_no (i := 6) (d := 65) 6 rfl (by kernel_rfl) (by kernel_rfl) (by kernel_rfl) ⟨_, _, _, rfl, rfl, rfl, rfl⟩ rfl rfl ?_
        refine wa_no (i := 7) (d := 66) 5 rfl (by kernel_rfl) (by kernel_rfl) (by kernel_rfl) ⟨_, _, _, rfl, rfl, rfl, rfl⟩ rfl rfl ?_
        refine wa_no (i := 8) (d := 67) 4 rfl (by kernel_rfl) (by kernel_rfl) (by kernel_rfl) ⟨_, _, _, rfl, rfl, rfl, rfl⟩ rfl rfl ?_
        refine wa_no (i := 9) (d := 68) 3 rfl (by kernel_rfl) (by kernel_rfl) (by kernel_rfl) ⟨_, _, _, rfl, rfl, rfl, rfl⟩ rfl rfl ?_
        refine wa_no (i := 10) (d := 69) 2 rfl (by kernel_rfl) (by kernel_rfl) (by kernel_rfl) ⟨_, _, _, rfl, rfl, rfl, rfl⟩ rfl rfl ?_
        refine wa_no (i := 11) (d := 70) 1 rfl (by kernel_rfl) (by kernel_rfl) (by kernel_rfl) ⟨_, _, _, rfl, rfl, rfl, rfl⟩ rfl rfl ?_
        refine wa_takeP (i := 12) (d := 71) 0 rfl (by kernel_rfl) (by kernel_rfl) (by kernel_rfl) rfl rfl rfl (fun w67 => run_pickF rfl rfl rfl) ?_
        refine wa_end (by kernel_rfl) (fun w68 S83 => ?_)
        refine nm_sub [(0, _), (3, _), (5, _), (6, _), (17, _), (18, _), (19, _), (71, _)] ⟨rfl, rfl, rfl, rfl, rfl, rfl, rfl, rfl, trivial⟩ ?_
        refine nm_thn ?_
        refine ws_condFN follow_n60 rfl rfl rfl ?_
        refine ws_skip rfl ?_
        refine nm_blk ?_
        refine nm_sub [(0, _), (3, _), (5, _), (6, _), (17, _), (18, _), (19, _)] ⟨rfl, rfl, rfl, rfl, rfl, rfl, rfl, trivial⟩ ?_
        refine nm_thn ?_
        have hclo9 : ag2 = false → ∀ j, j < i + 1 → CloQ q (ga rs j) (cl2) := fun h9 j hj => by by_cases e : j = i; (subst e; exact .inr ⟨fun h8 => absurd h8 hg37, fun h8 => absurd h8 hg61⟩); exact hclo2 h9 j (by omega)
        refine ws_region rfl ?_
        refine wlo 0 1 rfl rfl rfl (wo_run rfl rfl (run_add rfl rfl rfl (by first | omega | (simp only [lens]; omega))) ?_)
        refine wlm 1 2 rfl rfl rfl rfl rfl rfl rfl ?_
        refine wl_end rfl ?_
        refine nm_lp ?_
        intro ax_ hax_
        refine ⟨_, ?hq7m, ⟨i + 1, cl2, ag2, _, rfl, hax_.sub ⟨rfl, rfl, rfl, rfl, rfl, rfl, rfl, trivial⟩, S83.pick [2, 0, 1] [_, _, _] (by decide) ⟨rfl, rfl, rfl, trivial⟩, ?hq7f0, ?hq7f1, ?hq7f2, ?hq7f3, ?hq7f4⟩⟩
        case hq7f0 => omega
        case hq7f1 => exact hvb
        case hq7f2 => assumption
        case hq7f3 => assumption
        case hq7f4 => exact hclo9
        case hq7m => omega
    ·replace hb20 := of_decide_eq_false hb20
     refine ws_exit rfl rfl ?_
     refine nm_blk ?_
     refine nm_sub [(0, _), (3, _), (5, _), (6, _)] ⟨rfl, rfl, rfl, rfl, trivial⟩ ?_
     refine nm_thn ?_
     refine ws_seqN follow_n63 follow_n64 rfl rfl rfl ?_
     refine ws_region rfl ?_
     refine wlo 0 1 rfl rfl rfl (wo_run rfl rfl (run_load1 rfl rfl Try.underlying4 rfl (S6.boxc (i := 0) rfl rfl)) ?_)
     refine wl_end rfl ?_
     refine nm_sub [(0, _), (3, _), (5, _), (73, _)] ⟨rfl, rfl, rfl, rfl, trivial⟩ ?_
     refine nm_thn ?_
     refine ws_region rfl ?_
     refine wlo 0 1 rfl rfl rfl (wo_alloc (l := [_]) rfl rfl rfl zr4 rfl S6 ?_)
     intro gb4 w69 S84; clear S6
     refine wlo 1 2 rfl rfl rfl (wo_storeB (i := 0) (us := [_]) (l' := [_]) (H' := [_, _, _, _]) rfl rfl S84 rfl rfl rfl rfl sz4 rfl rfl rfl rfl ?_)
     intro w70 S85; clear S84
     refine wl_end rfl ?_
     refine nm_lp ?_
     intro ax_ hax_
     refine ⟨_, ?hq8m, ⟨cl2, ag2, _, _, rfl, hax_.sub ⟨rfl, rfl, rfl, rfl, trivial⟩, S85.pick [0, 2, 3] [_, _, _] (by decide) ⟨rfl, rfl, rfl, trivial⟩, ?hq8f0, ?hq8f1, ?hq8f2⟩⟩
     case hq8f0 => rw [hvb, hva]
     case hq8f1 => exact hF2
     case hq8f2 => (intro h9 j hj; exact hclo2 h9 j (by omega))
     case hq8m => (rw [hb13, if_pos rfl]; cases ag2 with | true => (have := hP2.2.1 rfl; rw [if_pos rfl]; omega) | false => (rw [hP2.2.2 rfl, if_neg (by decide)]; omega))
  ·refine ws_exit rfl rfl ?_
   refine nm_sub [] trivial ?_
   refine nm_thn ?_
   refine ws_seqN follow_n65 follow_n66 rfl rfl rfl ?_
   refine ws_region rfl ?_
   refine wla 0 1 rfl rfl rfl rfl rfl rfl rfl ?_
   refine wl_end rfl ?_
   refine nm_thn ?_
   refine ws_ret hC [_] rfl rfl ⟨rfl, trivial⟩ ?_
   exact ⟨_, rfl, _, _, Hp.le_refl _, S4.pick [2] [_] (by decide) ⟨rfl, trivial⟩, ⟨rfl, cl1, true, rfl, ⟨hF.1, fun _ => ⟨hF, hclo hb13⟩, fun h => (by cases h)⟩, by rw [hva]⟩⟩
end Go.Proofs.Ytefkjfcncpmneaa
namespace Go.Proofs.Ytefkjfcncpmneaa
open Go.ChangeShapes Go.WideShapes Go.ChangeAt Go.RowKit
def gens (n : Nat) : Nat → List (List Int)
 | 0 => [[]]
 | m + 1 => (gens n m).flatMap (fun g => (List.range n).map (fun c => ((c : Nat) : Int) :: g))
theorem mem_gens {n m : Nat} {g : List Int} : g ∈ gens n m ↔ g.length = m ∧ ∀ i, i < m → 0 ≤ ga g i ∧ ga g i < (n : Int) := by
 induction m generalizing g with
 | zero =>
  rw [gens, List.mem_singleton]
  exact ⟨fun h => by subst h; exact ⟨rfl, fun i hi => absurd hi (by omega)⟩, fun h => List.eq_nil_of_length_eq_zero h.1⟩
 | succ m ih =>
  rw [gens, List.mem_flatMap]
  constructor
  ·rintro ⟨h, hh, hg⟩
   obtain ⟨c, hc, rfl⟩ := List.mem_map.1 hg
   rw [List.mem_range] at hc
   obtain ⟨h1, h2⟩ := ih.1 hh
   refine ⟨by simp [h1], fun i hi => ?_⟩
   cases i with
   | zero => show 0 ≤ (c : Int) ∧ (c : Int) < (n : Int); omega
   | succ i => exact h2 i (by omega)
  ·rintro ⟨h1, h2⟩
   cases g with
   | nil => simp at h1
   | cons x g =>
    have hx : 0 ≤ x ∧ x < (n : Int) := h2 0 (by omega)
    refine ⟨g, ih.2 ⟨by simpa using h1, fun i hi => h2 (i + 1) (by omega)⟩, List.mem_map.2 ⟨x.toNat, List.mem_range.2 (by omega), ?_⟩⟩
    rw [Int.toNat_of_nonneg hx.1]
theorem nodup_gens (n m : Nat) : (gens n m).Nodup := by
 induction m with
 | zero => simp [gens]
 | succ m ih =>
  rw [gens]
  unfold List.Nodup at ih ⊢
  rw [List.pairwise_flatMap]
  refine ⟨fun g _ => ?_, ih.imp ?_⟩
  ·rw [List.pairwise_map]
   refine List.nodup_range.imp ?_
   intro a b h h2
   have := (List.cons.inj h2).1
   omega
  ·intro a b hab x hx y hy h
   obtain ⟨c, _, rfl⟩ := List.mem_map.1 hx
   obtain ⟨e, _, rfl⟩ := List.mem_map.1 hy
   exact hab (List.cons.inj h).2
theorem length_gens (n m : Nat) : (gens n m).length = n ^ m := by
 induction m with
 | zero => rfl
 | succ m ih =>
  rw [gens, List.length_flatMap]
  have : ∀ l : List (List Int), (l.map (fun g => ((List.range n).map (fun c => ((c : Nat) : Int) :: g)).length)).sum = l.length * n := fun l => by
   induction l with
   | nil => simp
   | cons x l ih => rw [List.map_cons, List.sum_cons, ih, List.length_cons, List.length_map, List.length_range, Nat.succ_mul, Nat.add_comm]
  rw [this, ih, Nat.pow_succ]
def sumN (f : Nat → Nat) : Nat → Nat
 | 0 => 0
 | n + 1 => sumN f n + f n
theorem sumN_zero {f : Nat → Nat} {n : Nat} (h : ∀ c, c < n → f c = 0) : sumN f n = 0 := by
 induction n with
 | zero => rfl
 | succ n ih => rw [sumN, ih (fun c hc => h c (by omega)), h n (by omega)]
theorem sumN_one {f : Nat → Nat} {n k : Nat} (hk : k < n) (h1 : f k = 1) (h : ∀ c, c < n → c ≠ k → f c = 0) : sumN f n = 1 := by
 induction n with
 | zero => omega
 | succ n ih =>
  rw [sumN]
  by_cases e : k = n
  ·subst e; rw [sumN_zero (fun c hc => h c (by omega) (by omega)), h1]
  ·rw [ih (by omega) (fun c hc hn => h c (by omega) hn), h n (by omega) (fun e2 => e e2.symm)]
theorem sumN_add (f g : Nat → Nat) (n : Nat) : sumN (fun c => f c + g c) n = sumN f n + sumN g n := by
 induction n with
 | zero => rfl
 | succ n ih => rw [sumN, sumN, sumN, ih]; omega
theorem sumN_le {f : Nat → Nat} {n B : Nat} (h : ∀ c, c < n → f c ≤ B) : sumN f n ≤ n * B := by
 induction n with
 | zero => exact Nat.zero_le _
 | succ n ih => rw [sumN, Nat.succ_mul]; have := ih (fun c hc => h c (by omega)); have := h n (by omega); omega
theorem countP_sum {α : Type} {p : α → Bool} {r : Nat → α → Bool} {n : Nat} {l : List α} (h : ∀ x ∈ l, (if p x = true then 1 else 0) = sumN (fun c => if r c x = true then 1 else 0) n) : l.countP p = sumN (fun c => l.countP (r c)) n := by
 induction l with
 | nil => rw [List.countP_nil, sumN_zero (fun c _ => List.countP_nil)]
 | cons x l ih =>
  rw [List.countP_cons, ih (fun y hy => h y (List.mem_cons_of_mem _ hy)), h x (List.mem_cons_self ..)]
  have e : (fun c => (x :: l).countP (r c)) = (fun c => l.countP (r c) + if r c x = true then 1 else 0) := funext fun c => List.countP_cons
  rw [e, sumN_add]
noncomputable def sB (p : Prop) : Bool := @decide p (Classical.propDecidable p)
theorem sB_iff {p : Prop} : sB p = true ↔ p := @decide_eq_true_iff p (Classical.propDecidable p)
noncomputable def cntS (q : List (List Int)) (rs : List Rl) (cs : List Int) : Nat := (gens q.length cs.length).countP (fun g => sB (SolQ q rs cs.length g ∧ ExtQ cs g))
theorem cntS_le (q : List (List Int)) (rs : List Rl) (cs : List Int) : cntS q rs cs ≤ q.length ^ cs.length := by
 unfold cntS; rw [← length_gens]; exact List.countP_le_length
theorem cntS_none {q : List (List Int)} {rs : List Rl} {cs : List Int} (h : ∀ g, SolQ q rs cs.length g → ¬ ExtQ cs g) : cntS q rs cs = 0 := by
 unfold cntS
 rw [List.countP_eq_zero]
 intro g _ h1
 have := sB_iff.1 h1
 exact h g this.1 this.2
theorem cntS_fol {q : List (List Int)} {rs : List Rl} {cs0 cs : List Int} (h : FolI q rs cs0 cs) : cntS q rs cs0 = cntS q rs cs := by
 unfold cntS
 rw [h.1]
 refine List.countP_congr fun g _ => ?_
 rw [sB_iff, sB_iff]
 refine ⟨fun ⟨h1, h2⟩ => ⟨h1, h.2.2.2 g h1 h2⟩, fun ⟨h1, h2⟩ => ⟨h1, fun i hi h0 => ?_⟩⟩
 have h3 := h.2.2.1 i hi h0
 rw [← h3]
 exact h2 i (by rw [h.1]; exact hi) (by rw [h3]; exact h0)
theorem cntS_split {q : List (List Int)} {rs : List Rl} {cs : List Int} {i : Nat} (hi : i < cs.length) (h0 : ga cs i = -1) : cntS q rs cs = sumN (fun c => cntS q rs (cs.set i (c : Int))) q.length := by
 unfold cntS
 simp only [List.length_set]
 refine countP_sum fun g hg => ?_
 have hv := (mem_gens.1 hg).2 i hi
 have key : ∀ c : Nat, ExtQ (cs.set i (c : Int)) g ↔ (ExtQ cs g ∧ ga g i = (c : Int)) := fun c => by
  constructor
  ·intro h
   refine ⟨fun j hj h1 => ?_, ?_⟩
   ·have := h j (by rw [List.length_set]; exact hj)
    rw [ga_set _ _ _ _ hi] at this
    by_cases e : i = j
    ·subst e; exact absurd h0 h1
    ·rw [if_neg e] at this; exact this h1
   ·have := h i (by rw [List.length_set]; exact hi)
    rw [ga_set _ _ _ _ hi, if_pos rfl] at this
    exact this (by omega)
  ·rintro ⟨h1, h2⟩ j hj h3
   rw [List.length_set] at hj
   rw [ga_set _ _ _ _ hi] at h3 ⊢
   by_cases e : i = j
   ·subst e; rw [if_pos rfl]; exact h2
   ·rw [if_neg e] at h3 ⊢; exact h1 j hj h3
 by_cases hp : SolQ q rs cs.length g ∧ ExtQ cs g
 ·rw [if_pos (sB_iff.2 hp), sumN_one (k := (ga g i).toNat) (by omega)]
  ·rw [if_pos (sB_iff.2 ⟨hp.1, (key _).2 ⟨hp.2, by omega⟩⟩)]
  ·intro c hc hn
   rw [if_neg]
   intro h9
   have := ((key c).1 (sB_iff.1 h9).2).2
   omega
 ·rw [if_neg (fun h9 => hp (sB_iff.1 h9)), sumN_zero]
  intro c hc
  rw [if_neg]
  intro h9
  have h8 := sB_iff.1 h9
  exact hp ⟨h8.1, ((key c).1 h8.2).1⟩
theorem countP_uniq {α : Type} {p : α → Bool} {l : List α} (hn : l.Nodup) {a : α} (ha : a ∈ l) (hp : ∀ x ∈ l, p x = true ↔ x = a) : l.countP p = 1 := by
 induction l with
 | nil => cases ha
 | cons x l ih =>
  rw [List.nodup_cons] at hn
  rw [List.countP_cons]
  by_cases e : x = a
  ·subst e
   rw [if_pos ((hp x (List.mem_cons_self ..)).2 rfl)]
   have : l.countP p = 0 := by
    rw [List.countP_eq_zero]
    intro y hy h
    have := (hp y (List.mem_cons_of_mem _ hy)).1 h
    exact hn.1 (this ▸ hy)
   omega
  ·rw [if_neg (fun h => e ((hp x (List.mem_cons_self ..)).1 h))]
   have ha2 : a ∈ l := by
    rcases List.mem_cons.1 ha with h | h
    ·exact absurd h.symm e
    ·exact h
   rw [ih hn.2 ha2 (fun y hy => hp y (List.mem_cons_of_mem _ hy))]
theorem cntS_full {q : List (List Int)} {rs : List Rl} {cs : List Int} (hV : ColV q cs) (hR : RuV rs cs.length) (h : ∀ i, i < cs.length → ga cs i ≠ -1) (hC : ∀ i, i < rs.length → CloQ q (ga rs i) cs) : cntS q rs cs = 1 := by
 unfold cntS
 have hv : ∀ i, i < cs.length → 0 ≤ ga cs i ∧ ga cs i < (q.length : Int) := fun i hi => by have := hV i hi; have := h i hi; omega
 refine countP_uniq (nodup_gens _ _) (mem_gens.2 ⟨rfl, hv⟩) fun g hg => ?_
 rw [sB_iff]
 constructor
 ·rintro ⟨h1, h2⟩
  exact ga_ext h1.1 fun i hi => h2 i (by rw [← h1.1]; exact hi) (h i (by rw [← h1.1]; exact hi))
 ·rintro rfl
  refine ⟨⟨rfl, hv, fun i hi => ?_⟩, fun _ _ _ => rfl⟩
  obtain ⟨r1, r2, r3⟩ := hR i hi
  exact (hC i hi).full (h _ (by omega)) (h _ (by omega))
end Go.Proofs.Ytefkjfcncpmneaa
namespace Go.Proofs.Ytefkjfcncpmneaa
open Go.ChangeShapes Go.WideShapes Go.ChangeAt Go.RowKit
theorem ixN_cases (cs : List Int) : (∃ k : Nat, k < cs.length ∧ ga cs k = -1 ∧ idxF (fun x => decide (x = -1)) cs = (k : Int)) ∨ ((∀ j, j < cs.length → ga cs j ≠ -1) ∧ idxF (fun x => decide (x = -1)) cs = -1) := by
 unfold idxF
 cases h : cs.findIdx? (fun x => decide (x = -1)) with
 | some i =>
  rw [List.findIdx?_eq_some_iff_getElem] at h
  obtain ⟨h1, h2, _⟩ := h
  exact .inl ⟨i, h1, by rw [ga_eq h1]; simpa using h2, rfl⟩
 | none =>
  rw [List.findIdx?_eq_none_iff] at h
  exact .inr ⟨fun j hj e => by have := h _ (ga_mem hj); rw [e] at this; simp at this, rfl⟩
theorem cntS_bd {q : List (List Int)} (hF : QuF q) (rs : List Rl) {cs : List Int} (h : cs.length ≤ 20) : cntS q rs cs ≤ 1099511627776 := by
 refine Nat.le_trans (cntS_le q rs cs) ?_
 refine Nat.le_trans (Nat.pow_le_pow_left hF.2.1 _) ?_
 exact Nat.le_trans (Nat.pow_le_pow_right (by omega) h) (by decide)
theorem nones_ge {cs cs' : List Int} (hl : cs'.length = cs.length) (h : ∀ i, i < cs.length → ga cs i ≠ -1 → ga cs' i ≠ -1) : nones cs' ≤ nones cs := by
 induction cs generalizing cs' with
 | nil =>
  have : cs' = [] := List.eq_nil_of_length_eq_zero hl
  subst this; exact Nat.le_refl _
 | cons x cs ih =>
  cases cs' with
  | nil => simp at hl
  | cons y cs' =>
   have h1 := ih (cs' := cs') (by simpa using hl) (fun i hi h0 => h (i + 1) (by simpa using hi) h0)
   unfold nones at *
   rw [List.countP_cons, List.countP_cons]
   by_cases e : x = -1
   ·have e2 : decide (x = -1) = true := by simpa using e
    rw [if_pos e2]; split <;> omega
   ·have e3 : ¬ y = -1 := h 0 (by simp) e
    have e2 : ¬ decide (y = -1) = true := by simpa using e3
    rw [if_neg e2]; split <;> omega
def ClF (q : List (List Int)) (rs : List Rl) (cs : List Int) : Prop := (∀ i, i < cs.length → ga cs i ≠ -1) → ∀ i, i < rs.length → CloQ q (ga rs i) cs
theorem nilI {N : Hp} {A : Option Addr} {c : Nat} {s : List Int} (h : RdA cdInt N A c s) (hn : Option.isNone A = true) : s = [] := by
 cases s with
 | nil => rfl
 | cons y ys => have := (h.2.2 (by simp)).1; rw [this] at hn; cases hn
noncomputable def IndexI_n0 : Code := Try.f88.body.getD .skip
noncomputable def IndexI_n1 : Code := cL IndexI_n0
noncomputable def IndexI_n2 : Code := cR IndexI_n0
noncomputable def IndexI_n3 : Code := cL IndexI_n2
noncomputable def IndexI_n4 : Code := cR IndexI_n2
noncomputable def IndexI_n5 : Code := cL IndexI_n3
noncomputable def IndexI_n6 : Code := cR IndexI_n3
noncomputable def IndexI_n7 : Code := cL IndexI_n6
noncomputable def IndexI_n8 : Code := cL IndexI_n7
noncomputable def IndexI_n9 : Code := cL IndexI_n8
noncomputable def IndexI_n10 : Code := cR IndexI_n8
noncomputable def IndexI_n11 : Code := cL IndexI_n10
noncomputable def IndexI_n12 : Code := cR IndexI_n10
noncomputable def IndexI_n13 : Code := cL IndexI_n11
noncomputable def IndexI_n14 : Code := cR IndexI_n11
noncomputable def IndexI_n15 : Code := cL IndexI_n12
noncomputable def IndexI_n16 : Code := cR IndexI_n12
noncomputable def IndexI_n17 : Code := cL IndexI_n15
noncomputable def IndexI_n18 : Code := cL IndexI_n17
noncomputable def IndexI_n19 : Code := cR IndexI_n17
noncomputable def IndexI_n20 : Code := cL IndexI_n19
noncomputable def IndexI_n21 : Code := cR IndexI_n19
noncomputable def IndexI_n22 : Code := cL IndexI_n21
noncomputable def IndexI_n23 : Code := cR IndexI_n21
noncomputable def IndexI_n24 : Code := cL IndexI_n22
noncomputable def IndexI_n25 : Code := cR IndexI_n22
noncomputable def IndexI_n26 : Code := cL IndexI_n4
noncomputable def IndexI_n27 : Code := cR IndexI_n4
set_option maxRecDepth 10000 in
theorem IndexI_q {w : World} {M : Hp} {X : Fr} (s : List Int) {sA : Option Addr} {sc : Nat} (v : Int) (hs : RdA cdInt (M.un X.h) sA sc s) (S : SH w M X []) : Cq Try.prog 88 [.slice sA s.length sc, .int .i64 v] w M X (fun u => u = .int .i64 (idxF (fun x => decide (x = v)) s)) := by
 unfold Cq
 have rmhs : s.length * 8 ≤ 140737488355328 := hs.room
 refine calls_in (b := IndexI_n0) Try.func88 rfl Try.ntmps88 rfl (fun C hC => ?_)
 refine ws_sub [(0, _), (1, _)] ⟨rfl, rfl, trivial⟩ ?_
 refine ws_seqN IndexI_n1 IndexI_n2 rfl rfl rfl ?_
 refine ws_region rfl ?_
 refine wla 0 1 rfl rfl rfl rfl rfl rfl rfl ?_
 refine wl_end rfl ?_
 refine nm_sub [(0, _), (1, _)] ⟨rfl, rfl, trivial⟩ ?_
 refine nm_thn ?_
 refine ws_seqN IndexI_n3 IndexI_n4 rfl rfl rfl ?_
 refine ws_seqN IndexI_n5 IndexI_n6 rfl rfl rfl ?_
 refine ws_region rfl ?_
 refine wlm 0 1 rfl rfl rfl rfl rfl rfl rfl ?_
 refine wlo 1 2 rfl rfl rfl (wo_run rfl rfl (run_len rfl rfl rfl rfl rfl rfl Try.underlying33) ?_)
 refine wlm 2 3 rfl rfl rfl rfl rfl rfl rfl ?_
 refine wl_end rfl ?_
 refine nm_sub [(0, _), (1, _), (7, _), (8, _)] ⟨rfl, rfl, rfl, rfl, trivial⟩ ?_
 refine nm_thn ?_
 refine ws_blockN IndexI_n7 0 rfl rfl rfl ?_
 refine ws_loopE (fun mx_ ax_ wx_ => ∃ (k : Nat), mx_ = s.length - k ∧ Env 19 [(0, .slice sA s.length sc), (1, .int .i64 v), (7, .int .i64 (s.length : Int)), (8, .int .i64 (k : Int))] ax_ ∧ SH wx_ M X [] ∧ k ≤ s.length ∧ (∀ j, j < k → ga s j ≠ v)) rfl ?_ ?_
 ·intro ax_ hax_
  refine ⟨_, ⟨0, rfl, hax_.sub ⟨rfl, rfl, rfl, rfl, trivial⟩, S.pick [] [] (by decide) trivial, ?hq1f0, ?hq1f1⟩⟩
  case hq1f0 => omega
  case hq1f1 => (intro j hj; omega)
 ·rintro m1 a1 w1 ⟨k, rfl, he1, S1, hk, hno⟩
  clear S
  refine ws_in he1 (c := IndexI_n8) rfl ?_
  clear he1 a1
  refine ws_seqN IndexI_n9 IndexI_n10 rfl rfl rfl ?_
  refine ws_region rfl ?_
  refine wlo 0 1 rfl rfl rfl (wo_run rfl rfl (run_lss rfl rfl rfl) ?_)
  refine wl_end rfl ?_
  refine nm_thn ?_
  refine ws_seqN IndexI_n11 IndexI_n12 rfl rfl rfl ?_
  refine ws_condN IndexI_n13 IndexI_n14 rfl rfl rfl rfl (fun hb9 => ?_) (fun hb9 => ?_)
  ·replace hb9 := of_decide_eq_true hb9
   refine ws_skip rfl ?_
   refine nm_sub [(0, _), (1, _), (7, _), (8, _)] ⟨rfl, rfl, rfl, rfl, trivial⟩ ?_
   refine nm_thn ?_
   refine ws_seqN IndexI_n15 IndexI_n16 rfl rfl rfl ?_
   refine ws_blockN IndexI_n17 1 rfl rfl rfl ?_
   refine ws_seqN IndexI_n18 IndexI_n19 rfl rfl rfl ?_
   refine ws_region rfl ?_
   refine wlm 0 1 rfl rfl rfl rfl rfl rfl rfl ?_
   refine wla 1 2 rfl rfl rfl rfl rfl rfl rfl ?_
   refine wl_end rfl ?_
   refine nm_sub [(0, _), (1, _), (7, _), (8, _), (5, _)] ⟨rfl, rfl, rfl, rfl, rfl, trivial⟩ ?_
   refine nm_thn ?_
   refine ws_seqN IndexI_n20 IndexI_n21 rfl rfl rfl ?_
   refine ws_region rfl ?_
   refine wlm 0 1 rfl rfl rfl rfl rfl rfl rfl ?_
   refine wlm 1 2 rfl rfl rfl rfl rfl rfl rfl ?_
   refine wlm 2 3 rfl rfl rfl rfl rfl rfl rfl ?_
   refine wlo 3 4 rfl rfl rfl (wo_run rfl rfl (run_indexM (C := cdInt) k rfl rfl rfl sl33 (by first | rfl | omega) hs (by first | omega | (simp only [lens]; omega))) ?_)
   refine wlo 4 5 rfl rfl rfl (wo_run rfl rfl (run_load1 rfl rfl Try.underlying3 rfl (hs.cell S1.um (i := k) (by first | omega | (simp only [lens]; omega)) 0 rfl rfl)) ?_)
   refine wlo 5 6 rfl rfl rfl (wo_run rfl rfl (run_eql rfl rfl rfl) ?_)
   refine wl_end rfl ?_
   refine nm_sub [(0, _), (1, _), (7, _), (8, _), (5, _), (16, _)] ⟨rfl, rfl, rfl, rfl, rfl, rfl, trivial⟩ ?_
   refine nm_thn ?_
   refine ws_condN IndexI_n22 IndexI_n23 rfl rfl rfl rfl (fun hb16 => ?_) (fun hb16 => ?_)
   ·replace hb16 := of_decide_eq_true hb16
    refine ws_seqN IndexI_n24 IndexI_n25 rfl rfl rfl ?_
    refine ws_region rfl ?_
    refine wlm 0 1 rfl rfl rfl rfl rfl rfl rfl ?_
    refine wla 1 2 rfl rfl rfl rfl rfl rfl rfl ?_
    refine wl_end rfl ?_
    refine nm_sub [(4, _)] ⟨rfl, trivial⟩ ?_
    refine nm_thn ?_
    refine ws_ret hC [_] rfl rfl ⟨rfl, trivial⟩ ?_
    exact ⟨_, rfl, (S1.pick [] [] (by decide) trivial), (by rw [idxF_hit (k := k) (by omega) (by rw [decide_eq_true_iff]; omega) (fun j hj => decide_eq_false (hno j hj))]; rfl)⟩
   ·replace hb16 := of_decide_eq_false hb16
    refine ws_skip rfl ?_
    refine nm_blk ?_
    refine nm_sub [(0, _), (1, _), (7, _), (8, _)] ⟨rfl, rfl, rfl, rfl, trivial⟩ ?_
    refine nm_thn ?_
    refine ws_region rfl ?_
    refine wlo 0 1 rfl rfl rfl (wo_run rfl rfl (run_add rfl rfl rfl (by first | omega | (simp only [lens]; omega))) ?_)
    refine wlm 1 2 rfl rfl rfl rfl rfl rfl rfl ?_
    refine wl_end rfl ?_
    refine nm_lp ?_
    intro ax_ hax_
    refine ⟨_, ?hq2m, ⟨k + 1, rfl, hax_.sub ⟨rfl, rfl, rfl, rfl, trivial⟩, S1.pick [] [] (by decide) trivial, ?hq2f0, ?hq2f1⟩⟩
    case hq2f0 => first | assumption | omega
    case hq2f1 => (intro j hj; by_cases h : j = k; (subst h; omega); exact hno j (by omega))
    case hq2m => omega
  ·replace hb9 := of_decide_eq_false hb9
   refine ws_exit rfl rfl ?_
   refine nm_sub [] trivial ?_
   refine nm_thn ?_
   refine ws_seqN IndexI_n26 IndexI_n27 rfl rfl rfl ?_
   refine ws_region rfl ?_
   refine wla 0 1 rfl rfl rfl rfl rfl rfl rfl ?_
   refine wl_end rfl ?_
   refine nm_thn ?_
   refine ws_ret hC [_] rfl rfl ⟨rfl, trivial⟩ ?_
   exact ⟨_, rfl, (S1.pick [] [] (by decide) trivial), (by rw [idxF_none (fun j hj => decide_eq_false (hno j (by omega)))]; rfl)⟩
noncomputable def CloneO_n0 : Code := Try.f89.body.getD .skip
noncomputable def CloneO_n1 : Code := cL CloneO_n0
noncomputable def CloneO_n2 : Code := cR CloneO_n0
noncomputable def CloneO_n3 : Code := cL CloneO_n2
noncomputable def CloneO_n4 : Code := cR CloneO_n2
noncomputable def CloneO_n5 : Code := cL CloneO_n3
noncomputable def CloneO_n6 : Code := cR CloneO_n3
noncomputable def CloneO_n7 : Code := cL CloneO_n6
noncomputable def CloneO_n8 : Code := cR CloneO_n6
noncomputable def CloneO_n9 : Code := cL CloneO_n4
noncomputable def CloneO_n10 : Code := cR CloneO_n4
set_option maxRecDepth 10000 in
theorem CloneO_o {w : World} {M : Hp} {X : Fr} (s : List Int) {sA : Option Addr} {sc : Nat} (hs : RdA cdInt (M.un X.h) sA sc s) (hne : s ≠ []) (S : SH w M X []) : Co Try.prog 89 [.slice sA s.length sc] w M X (fun u N => N = [Rs.row cdInt u s]) := by
 unfold Co
 have rmhs : s.length * 8 ≤ 140737488355328 := hs.room
 refine calls_in (b := CloneO_n0) Try.func89 rfl Try.ntmps89 rfl (fun C hC => ?_)
 refine ws_sub [(0, _)] ⟨rfl, trivial⟩ ?_
 refine ws_seqN CloneO_n1 CloneO_n2 rfl rfl rfl ?_
 refine ws_region rfl ?_
 refine wla 0 1 rfl rfl rfl rfl rfl rfl rfl ?_
 refine wl_end rfl ?_
 refine nm_sub [(0, _)] ⟨rfl, trivial⟩ ?_
 refine nm_thn ?_
 refine ws_seqN CloneO_n3 CloneO_n4 rfl rfl rfl ?_
 refine ws_seqN CloneO_n5 CloneO_n6 rfl rfl rfl ?_
 refine ws_region rfl ?_
 refine wlm 0 1 rfl rfl rfl rfl rfl rfl rfl ?_
 refine wlo 1 2 rfl rfl rfl (wo_run rfl rfl (run_eqlNil rfl rfl rfl Try.underlying33) ?_)
 refine wl_end rfl ?_
 refine nm_sub [(0, _), (4, _)] ⟨rfl, rfl, trivial⟩ ?_
 refine nm_thn ?_
 refine ws_condN CloneO_n7 CloneO_n8 rfl rfl rfl rfl (fun hb4 => ?_) (fun hb4 => ?_)
 ·exfalso; exact hne (nilI hs hb4)
 ·refine ws_skip rfl ?_
  refine nm_sub [(0, _)] ⟨rfl, trivial⟩ ?_
  refine nm_thn ?_
  refine ws_seqN CloneO_n9 CloneO_n10 rfl rfl rfl ?_
  refine ws_region rfl ?_
  refine wlo 0 1 rfl rfl rfl (wo_buildSlice0 (C := cdInt) rfl rfl rfl rfl sl33 S ?_)
  intro vr1 w1 S1; clear S
  refine wlm 1 2 rfl rfl rfl rfl rfl rfl rfl ?_
  refine wlo 2 3 rfl rfl rfl (wo_appendM (C := cdInt) (i := 0) rfl rfl rfl rfl rfl rfl rfl rfl sl33 S1 rfl hs S1.um (by have h : _ * 8 ≤ _ := hs.room; show (0 + _) * 8 ≤ _; first | omega | (simp only [lens]; omega)) ?_)
  intro vr2 w2 S2; clear S1
  change SH _ _ _ [Rs.row cdInt vr2 s] at S2
  refine wla 3 4 rfl rfl rfl rfl rfl rfl rfl ?_
  refine wl_end rfl ?_
  refine nm_sub [(2, _)] ⟨rfl, trivial⟩ ?_
  refine nm_thn ?_
  refine ws_ret hC [_] rfl rfl ⟨rfl, trivial⟩ ?_
  exact ⟨_, rfl, _, S2.pick [0] [_] (by decide) ⟨rfl, trivial⟩, rfl⟩
noncomputable def count_n0 : Code := Try.f56.body.getD .skip
noncomputable def count_n1 : Code := cL count_n0
noncomputable def count_n2 : Code := cR count_n0
noncomputable def count_n3 : Code := cL count_n2
noncomputable def count_n4 : Code := cR count_n2
noncomputable def count_n5 : Code := cL count_n4
noncomputable def count_n6 : Code := cR count_n4
noncomputable def count_n7 : Code := cL count_n5
noncomputable def count_n8 : Code := cR count_n5
noncomputable def count_n9 : Code := cL count_n8
noncomputable def count_n10 : Code := cR count_n8
noncomputable def count_n11 : Code := cL count_n9
noncomputable def count_n12 : Code := cR count_n9
noncomputable def count_n13 : Code := cL count_n6
noncomputable def count_n14 : Code := cR count_n6
noncomputable def count_n15 : Code := cL count_n14
noncomputable def count_n16 : Code := cR count_n14
noncomputable def count_n17 : Code := cL count_n15
noncomputable def count_n18 : Code := cR count_n15
noncomputable def count_n19 : Code := cL count_n18
noncomputable def count_n20 : Code := cL count_n19
noncomputable def count_n21 : Code := cL count_n20
noncomputable def count_n22 : Code := cR count_n20
noncomputable def count_n23 : Code := cL count_n22
noncomputable def count_n24 : Code := cR count_n22
noncomputable def count_n25 : Code := cL count_n23
noncomputable def count_n26 : Code := cR count_n23
noncomputable def count_n27 : Code := cL count_n24
noncomputable def count_n28 : Code := cR count_n24
noncomputable def count_n29 : Code := cL count_n27
noncomputable def count_n30 : Code := cL count_n29
noncomputable def count_n31 : Code := cR count_n29
noncomputable def count_n32 : Code := cL count_n31
noncomputable def count_n33 : Code := cR count_n31
noncomputable def count_n34 : Code := cL count_n33
noncomputable def count_n35 : Code := cR count_n33
noncomputable def count_n36 : Code := cL count_n35
noncomputable def count_n37 : Code := cR count_n35
noncomputable def count_n38 : Code := cL count_n37
noncomputable def count_n39 : Code := cR count_n37
noncomputable def count_n40 : Code := cL count_n16
noncomputable def count_n41 : Code := cR count_n16
set_option maxHeartbeats 2000000 in
set_option maxRecDepth 10000 in
theorem count_step {w : World} {M : Hp} {X : Fr} (q : List (List Int)) (rs : List Rl) {gk : Nat} {qA rA : Option Addr} {qc rc : Nat} {qv : List SlV} (cs : List Int) {csA : Option Addr} {csc : Nat} (hkb : BxM (M.un X.h) gk 99 [.slice qA qv.length qc, .slice rA rs.length rc]) (hq : RdA (cdV 33) (M.un X.h) qA qc qv) (hdq : Rd2 cdInt (M.un X.h) qv q) (hru : RdA cdRl (M.un X.h) rA rc rs) (hcs : RdA cdInt (M.un X.h) csA csc cs) (hQF : QuF q) (hQK : QuK q) (hRV : RuV rs cs.length) (hCV : ColV q cs) (hCF : ClF q rs cs) (hm : cs.length ≤ 20) (ih : ∀ (cs' : List Int), nones cs' < nones cs → cs'.length = cs.length → ColV q cs' → ClF q rs cs' → ∀ (w : World) (M : Hp) (X : Fr) {gk : Nat} {qA rA : Option Addr} {qc rc : Nat} {qv : List SlV} {A : Option Addr} {c : Nat}, BxM (M.un X.h) gk 99 [.slice qA qv.length qc, .slice rA rs.length rc] → RdA (cdV 33) (M.un X.h) qA qc qv → Rd2 cdInt (M.un X.h) qv q → RdA cdRl (M.un X.h) rA rc rs → RdA cdInt (M.un X.h) A c cs' → SH w M X [] → Cq Try.prog 56 [.pointer (some ⟨gk, 0, none⟩), .slice A cs'.length c] w M X (fun u => u = .int .i64 ((cntS q rs cs' : Nat) : Int))) (S : SH w M X []) : Cq Try.prog 56 [.pointer (some ⟨gk, 0, none⟩), .slice csA cs.length csc] w M X (fun u => u = .int .i64 ((cntS q rs cs : Nat) : Int)) := by
 unfold Cq
 have rmhcs : cs.length * 8 ≤ 140737488355328 := hcs.room
 have hlq := hdq.1
 refine calls_in (b := count_n0) Try.func56 rfl Try.ntmps56 rfl (fun C hC => ?_)
 refine ws_sub [(0, _), (1, _)] ⟨rfl, rfl, trivial⟩ ?_
 refine ws_seqN count_n1 count_n2 rfl rfl rfl ?_
 refine ws_region rfl ?_
 refine wla 0 1 rfl rfl rfl rfl rfl rfl rfl ?_
 refine wl_end rfl ?_
 refine nm_sub [(0, _), (1, _)] ⟨rfl, rfl, trivial⟩ ?_
 refine nm_thn ?_
 refine ws_seqN count_n3 count_n4 rfl rfl rfl ?_
 refine ws_region rfl ?_
 refine wlm 0 1 rfl rfl rfl rfl rfl rfl rfl ?_
 refine wlo 1 2 rfl rfl rfl (wo_cq rfl rfl rfl rfl rfl rfl rfl cf88 S (IndexI_q cs (-1) (hcs.mono S.un_XH) S.lend) ?_)
 rintro _ w1 S1 rfl; clear S
 refine wla 2 3 rfl rfl rfl rfl rfl rfl rfl ?_
 refine wl_end rfl ?_
 refine nm_sub [(0, _), (1, _), (5, _)] ⟨rfl, rfl, rfl, trivial⟩ ?_
 refine nm_thn ?_
 refine ws_seqN count_n5 count_n6 rfl rfl rfl ?_
 refine ws_seqN count_n7 count_n8 rfl rfl rfl ?_
 refine ws_region rfl ?_
 refine wlm 0 1 rfl rfl rfl rfl rfl rfl rfl ?_
 refine wlo 1 2 rfl rfl rfl (wo_run rfl rfl (run_lss rfl rfl rfl) ?_)
 refine wl_end rfl ?_
 refine nm_sub [(0, _), (1, _), (5, _), (12, _)] ⟨rfl, rfl, rfl, rfl, trivial⟩ ?_
 refine nm_thn ?_
 refine ws_condN count_n9 count_n10 rfl rfl rfl rfl (fun hb12 => ?_) (fun hb12 => ?_)
 ·replace hb12 := of_decide_eq_true hb12
  have hall : ∀ j, j < cs.length → ga cs j ≠ -1 := by (rcases ixN_cases cs with ⟨i, hi, hi0, hix⟩ | ⟨hall, hix⟩; (exact absurd hb12 (by omega)); exact hall)
  refine ws_seqN count_n11 count_n12 rfl rfl rfl ?_
  refine ws_region rfl ?_
  refine wla 0 1 rfl rfl rfl rfl rfl rfl rfl ?_
  refine wl_end rfl ?_
  refine nm_sub [(4, _)] ⟨rfl, trivial⟩ ?_
  refine nm_thn ?_
  refine ws_ret hC [_] rfl rfl ⟨rfl, trivial⟩ ?_
  exact ⟨_, rfl, (S1.pick [] [] (by decide) trivial), (congrArg (Value.int .i64) (by rw [cntS_full hCV hRV hall (hCF hall)]; rfl))⟩
 ·replace hb12 := of_decide_eq_false hb12
  obtain ⟨i, hi, hi0, hix⟩ : ∃ k : Nat, k < cs.length ∧ ga cs k = -1 ∧ idxF (fun x => decide (x = -1)) cs = (k : Int) := (ixN_cases cs).resolve_right (fun h => by have := h.2; omega)
  have hne : cs ≠ [] := by intro e; rw [e] at hi; simp at hi
  have hq4 := hQF.2.1
  refine ws_eq 5 (.int .i64 (i : Int)) rfl (int_eq hix) ?_
  refine ws_skip rfl ?_
  refine nm_sub [(0, _), (1, _), (5, _)] ⟨rfl, rfl, rfl, trivial⟩ ?_
  refine nm_thn ?_
  refine ws_seqN count_n13 count_n14 rfl rfl rfl ?_
  refine ws_region rfl ?_
  refine wla 0 1 rfl rfl rfl rfl rfl rfl rfl ?_
  refine wl_end rfl ?_
  refine nm_thn ?_
  refine ws_seqN count_n15 count_n16 rfl rfl rfl ?_
  refine ws_seqN count_n17 count_n18 rfl rfl rfl ?_
  refine ws_region rfl ?_
  refine wlm 0 1 rfl rfl rfl rfl rfl rfl rfl ?_
  refine wlo 1 2 rfl rfl rfl (wo_run rfl rfl (run_nilCheck rfl rfl) ?_)
  refine wlo 2 3 rfl rfl rfl (wo_run rfl rfl (run_fieldAddr rfl rfl Try.underlying99 rfl (ce34) (nf34)) ?_)
  refine wlo 3 4 rfl rfl rfl (wo_run rfl rfl (run_load1 rfl rfl Try.underlying34 rfl (hkb.cell S1.um rfl)) ?_)
  refine wlo 4 5 rfl rfl rfl (wo_run rfl rfl (run_len rfl rfl rfl rfl rfl rfl Try.underlying34) ?_)
  refine wlm 5 6 rfl rfl rfl rfl rfl rfl rfl ?_
  refine wl_end rfl ?_
  refine nm_sub [(0, _), (1, _), (5, _), (6, _), (17, _), (18, _)] ⟨rfl, rfl, rfl, rfl, rfl, rfl, trivial⟩ ?_
  refine nm_thn ?_
  refine ws_blockN count_n19 0 rfl rfl rfl ?_
  refine ws_loopE (fun mx_ ax_ wx_ => ∃ (c : Nat), mx_ = q.length - c ∧ Env 37 [(0, .pointer (some ⟨gk, 0, none⟩)), (1, .slice csA cs.length csc), (5, .int .i64 (i : Int)), (6, .int .i64 ((sumN (fun c => cntS q rs (cs.set i (c : Int))) c : Nat) : Int)), (17, .int .i64 (qv.length : Int)), (18, .int .i64 (c : Int))] ax_ ∧ SH wx_ M X [] ∧ c ≤ q.length) rfl ?_ ?_
  ·intro ax_ hax_
   refine ⟨_, ⟨0, rfl, hax_.sub ⟨rfl, rfl, rfl, rfl, rfl, rfl, trivial⟩, S1.pick [] [] (by decide) trivial, ?hq1f0⟩⟩
   case hq1f0 => omega
  ·rintro m1 a1 w2 ⟨c, rfl, he1, S2, hc⟩
   clear S1
   refine ws_in he1 (c := count_n20) rfl ?_
   clear he1 a1
   have hsb : sumN (fun c => cntS q rs (cs.set i (c : Int))) c ≤ c * 1099511627776 := sumN_le fun c _ => cntS_bd hQF rs (by rw [List.length_set]; exact hm)
   have hsb2 : c * 1099511627776 ≤ 4 * 1099511627776 := Nat.mul_le_mul_right _ (by have := hQF.2.1; omega)
   refine ws_seqN count_n21 count_n22 rfl rfl rfl ?_
   refine ws_region rfl ?_
   refine wlo 0 1 rfl rfl rfl (wo_run rfl rfl (run_lss rfl rfl rfl) ?_)
   refine wl_end rfl ?_
   refine nm_thn ?_
   refine ws_seqN count_n23 count_n24 rfl rfl rfl ?_
   refine ws_condN count_n25 count_n26 rfl rfl rfl rfl (fun hb19 => ?_) (fun hb19 => ?_)
   ·replace hb19 := of_decide_eq_true hb19
    refine ws_skip rfl ?_
    refine nm_sub [(0, _), (1, _), (5, _), (6, _), (17, _), (18, _)] ⟨rfl, rfl, rfl, rfl, rfl, rfl, trivial⟩ ?_
    refine nm_thn ?_
    refine ws_seqN count_n27 count_n28 rfl rfl rfl ?_
    refine ws_blockN count_n29 1 rfl rfl rfl ?_
    refine ws_seqN count_n30 count_n31 rfl rfl rfl ?_
    refine ws_region rfl ?_
    refine wlm 0 1 rfl rfl rfl rfl rfl rfl rfl ?_
    refine wla 1 2 rfl rfl rfl rfl rfl rfl rfl ?_
    refine wl_end rfl ?_
    refine nm_sub [(0, _), (1, _), (5, _), (6, _), (17, _), (18, _), (7, _)] ⟨rfl, rfl, rfl, rfl, rfl, rfl, rfl, trivial⟩ ?_
    refine nm_thn ?_
    refine ws_seqN count_n32 count_n33 rfl rfl rfl ?_
    refine ws_region rfl ?_
    refine wlm 0 1 rfl rfl rfl rfl rfl rfl rfl ?_
    refine wlo 1 2 rfl rfl rfl (wo_co rfl rfl rfl rfl rfl rfl rfl cf89 S2 (CloneO_o cs (hcs.mono S2.un_XH) (hne) S2.lend) ?_)
    intro vw3 w3 Nw3 S3 hRw3; clear S2
    obtain rfl := hRw3
    change SH _ _ _ [_] at S3
    refine wla 2 3 rfl rfl rfl rfl rfl rfl rfl ?_
    refine wl_end rfl ?_
    refine nm_sub [(0, _), (1, _), (5, _), (6, _), (17, _), (18, _), (7, _), (8, _)] ⟨rfl, rfl, rfl, rfl, rfl, rfl, rfl, rfl, trivial⟩ ?_
    refine nm_thn ?_
    refine ws_seqN count_n34 count_n35 rfl rfl rfl ?_
    refine ws_region rfl ?_
    refine wlm 0 1 rfl rfl rfl rfl rfl rfl rfl ?_
    refine wlm 1 2 rfl rfl rfl rfl rfl rfl rfl ?_
    refine wlm 2 3 rfl rfl rfl rfl rfl rfl rfl ?_
    refine wlo 3 4 rfl rfl rfl (wo_run rfl rfl (run_indexR (C := cdInt) (i := 0) i rfl rfl rfl sl33 S3 rfl (by first | rfl | omega) (by first | omega | (simp only [lens]; omega))) ?_)
    refine wlo 4 5 rfl rfl rfl (wo_storeR (C := cdInt) (i := 0) (e := i) (j := 0) (us := [_]) (H' := [_]) (c : Int) rfl rfl S3 rfl (by first | omega | (simp only [lens]; omega)) rfl rfl rfl sz3 rfl rfl rfl rfl ?_)
    intro w4 S4; clear S3
    refine wl_end rfl ?_
    refine nm_sub [(0, _), (1, _), (5, _), (6, _), (17, _), (18, _), (8, _)] ⟨rfl, rfl, rfl, rfl, rfl, rfl, rfl, trivial⟩ ?_
    refine nm_thn ?_
    refine ws_seqN count_n36 count_n37 rfl rfl rfl ?_
    have hcv9 : ColV q (cs.set i (c : Int)) := fun j hj => by rw [List.length_set] at hj; rw [ga_set _ _ _ _ hi]; split; omega; exact hCV j hj
    refine ws_region rfl ?_
    refine wlm 0 1 rfl rfl rfl rfl rfl rfl rfl ?_
    refine wlm 1 2 rfl rfl rfl rfl rfl rfl rfl ?_
    refine wlo 2 3 rfl rfl rfl (wo_c1 rfl rfl rfl rfl rfl rfl rfl cf90 S4 (i := 0) rfl (follow_w q rs vw3 (cs.set i (c : Int)) (hkb.mono (S4.less (i := 0) rfl).un_XH) (hq.mono (S4.less (i := 0) rfl).un_XH) (hdq.mono (S4.less (i := 0) rfl).un_XH) (hru.mono (S4.less (i := 0) rfl).un_XH) hQF hQK (by rw [List.length_set]; exact hRV) hcv9 (S4.lend1 (i := 0) rfl)) ?_)
    rintro vw5 w5 _ _ - S5 ⟨hMX1, cz1, ok1, rfl, hfr1, rfl⟩; clear S4
    change SH _ _ _ [_] at S5
    rw [hMX1] at S5; clear hMX1
    refine wl_end rfl ?_
    refine nm_sub [(0, _), (1, _), (5, _), (6, _), (17, _), (18, _), (8, _), (29, _)] ⟨rfl, rfl, rfl, rfl, rfl, rfl, rfl, rfl, trivial⟩ ?_
    refine nm_thn ?_
    refine ws_condN count_n38 count_n39 rfl rfl rfl rfl (fun hb29 => ?_) (fun hb29 => ?_)
    ·obtain ⟨hfi, hfc⟩ := hfr1.2.1 hb29
     have hle9 : cz1.length = cs.length := by rw [hfi.1, List.length_set]
     have hcw9 := hfi.2.1
     have hcf9 : ClF q rs cz1 := fun _ => hfc
     have hlt9 : nones cz1 < nones cs := by have h1 := nones_set (c := (c : Int)) hi hi0 (by omega); have h2 := nones_ge (cs := cs.set i (c : Int)) (cs' := cz1) hfi.1 (fun j hj h0 => by rw [hfi.2.2.1 j hj h0]; exact h0); omega
     have hsum9 : cntS q rs (cs.set i (c : Int)) = cntS q rs cz1 := cntS_fol hfi
     have hbd9 := cntS_bd hQF rs (cs := cz1) (by omega)
     refine ws_region rfl ?_
     refine wlm 0 1 rfl rfl rfl rfl rfl rfl rfl ?_
     refine wlm 1 2 rfl rfl rfl rfl rfl rfl rfl ?_
     refine wlm 2 3 rfl rfl rfl rfl rfl rfl rfl ?_
     obtain ⟨A1, c1, e1, hr1⟩ := S5.lendRd (i := 0) rfl (by show _ * 8 ≤ _; first | omega | (simp only [lens]; omega))
     have hcall1 := ih cz1 hlt9 hle9 hcw9 hcf9 _ _ _ (hkb.mono S5.un_XH) (hq.mono S5.un_XH) (hdq.mono S5.un_XH) (hru.mono S5.un_XH) hr1 S5.lend
     refine wlo 3 4 rfl rfl rfl (wo_cq rfl rfl rfl rfl rfl rfl rfl cf56 S5 (Cq.cast (by simp only [e1]) (hcall1)) ?_)
     rintro _ w6 S6 rfl; clear S5
     refine wlo 4 5 rfl rfl rfl (wo_run rfl rfl (run_add rfl rfl rfl (by first | omega | (simp only [lens]; omega))) ?_)
     refine wla 5 6 rfl rfl rfl rfl rfl rfl rfl ?_
     refine wl_end rfl ?_
     refine nm_blk ?_
     refine nm_sub [(0, _), (1, _), (5, _), (6, _), (17, _), (18, _)] ⟨rfl, rfl, rfl, rfl, rfl, rfl, trivial⟩ ?_
     refine nm_thn ?_
     refine ws_eq 6 (.int .i64 ((sumN (fun c => cntS q rs (cs.set i (c : Int))) (c + 1) : Nat) : Int)) rfl (int_eq (by rw [sumN, hsum9]; omega)) ?_
     refine ws_region rfl ?_
     refine wlo 0 1 rfl rfl rfl (wo_run rfl rfl (run_add rfl rfl rfl (by first | omega | (simp only [lens]; omega))) ?_)
     refine wlm 1 2 rfl rfl rfl rfl rfl rfl rfl ?_
     refine wl_end rfl ?_
     refine nm_lp ?_
     intro ax_ hax_
     refine ⟨_, ?hq2m, ⟨c + 1, rfl, hax_.sub ⟨rfl, rfl, rfl, rfl, rfl, rfl, trivial⟩, S6.pick [] [] (by decide) trivial, ?hq2f0⟩⟩
     case hq2f0 => omega
     case hq2m => omega
    ·have hsum9 : cntS q rs (cs.set i (c : Int)) = 0 := cntS_none (hfr1.2.2 hb29)
     refine ws_skip rfl ?_
     refine nm_blk ?_
     refine nm_sub [(0, _), (1, _), (5, _), (6, _), (17, _), (18, _)] ⟨rfl, rfl, rfl, rfl, rfl, rfl, trivial⟩ ?_
     refine nm_thn ?_
     refine ws_eq 6 (.int .i64 ((sumN (fun c => cntS q rs (cs.set i (c : Int))) (c + 1) : Nat) : Int)) rfl (int_eq (by rw [sumN, hsum9]; omega)) ?_
     refine ws_region rfl ?_
     refine wlo 0 1 rfl rfl rfl (wo_run rfl rfl (run_add rfl rfl rfl (by first | omega | (simp only [lens]; omega))) ?_)
     refine wlm 1 2 rfl rfl rfl rfl rfl rfl rfl ?_
     refine wl_end rfl ?_
     refine nm_lp ?_
     intro ax_ hax_
     refine ⟨_, ?hq3m, ⟨c + 1, rfl, hax_.sub ⟨rfl, rfl, rfl, rfl, rfl, rfl, trivial⟩, S5.pick [] [] (by decide) trivial, ?hq3f0⟩⟩
     case hq3f0 => omega
     case hq3m => omega
   ·replace hb19 := of_decide_eq_false hb19
    refine ws_exit rfl rfl ?_
    refine nm_sub [(6, _)] ⟨rfl, trivial⟩ ?_
    refine nm_thn ?_
    refine ws_seqN count_n40 count_n41 rfl rfl rfl ?_
    refine ws_region rfl ?_
    refine wlm 0 1 rfl rfl rfl rfl rfl rfl rfl ?_
    refine wla 1 2 rfl rfl rfl rfl rfl rfl rfl ?_
    refine wl_end rfl ?_
    refine nm_sub [(4, _)] ⟨rfl, trivial⟩ ?_
    refine nm_thn ?_
    refine ws_ret hC [_] rfl rfl ⟨rfl, trivial⟩ ?_
    exact ⟨_, rfl, (S2.pick [] [] (by decide) trivial), (congrArg (Value.int .i64) (by rw [cntS_split hi hi0, show q.length = c by omega]))⟩
end Go.Proofs.Ytefkjfcncpmneaa
namespace Go.Proofs.Ytefkjfcncpmneaa
open Go.ChangeShapes Go.WideShapes Go.ChangeAt Go.RowKit
theorem count_all {q : List (List Int)} {rs : List Rl} (hQF : QuF q) (hQK : QuK q) : ∀ (N : Nat) (cs : List Int), nones cs < N → RuV rs cs.length → cs.length ≤ 20 → ColV q cs → ClF q rs cs → ∀ (w : World) (M : Hp) (X : Fr) {gk : Nat} {qA rA : Option Addr} {qc rc : Nat} {qv : List SlV} {A : Option Addr} {c : Nat}, BxM (M.un X.h) gk 99 [.slice qA qv.length qc, .slice rA rs.length rc] → RdA (cdV 33) (M.un X.h) qA qc qv → Rd2 cdInt (M.un X.h) qv q → RdA cdRl (M.un X.h) rA rc rs → RdA cdInt (M.un X.h) A c cs → SH w M X [] → Cq Try.prog 56 [.pointer (some ⟨gk, 0, none⟩), .slice A cs.length c] w M X (fun u => u = .int .i64 ((cntS q rs cs : Nat) : Int)) := by
 intro N
 induction N with
 | zero => intro cs h; omega
 | succ N ih =>
  intro cs hN hR hm hV hC w M X gk qA rA qc rc qv A c hkb hq hdq hru hcs S
  exact count_step q rs cs hkb hq hdq hru hcs hQF hQK hR hV hC hm (fun cs' h1 hl h2 h3 => ih cs' (by omega) (by rw [hl]; exact hR) (by omega) h2 h3) S
def eA (d : Dg) (k : Nat) : Nat := (ga d.crs k).a.toNat
def eC (d : Dg) (k : Nat) : Nat := (ga d.crs k).c.toNat
/-- What a crossing asks of the colours up to an arc. -/
def okX (d : Dg) (q : List (List Int)) (l : List Int) (a k : Nat) : Prop :=
 (eB d k ≤ a → eD d k ≤ a → ga l (eB d k) = ga l (eD d k)) ∧
 (eA d k ≤ a → eB d k ≤ a → eC d k ≤ a → if (ga d.crs k).plus = true then q2 q (ga l (eA d k)).toNat (ga l (eB d k)).toNat = ga l (eC d k) else q2 q (ga l (eC d k)).toNat (ga l (eB d k)).toNat = ga l (eA d k))
theorem okX_pre {d : Dg} {q : List (List Int)} {p f : List Int} {a m k : Nat} (ha : a < p.length) (ham : a ≤ m) (h : okX d q (p ++ f) m k) : okX d q p a k := by
 have e : ∀ x, x ≤ a → ga (p ++ f) x = ga p x := fun x hx => ga_append_left _ _ _ (by omega)
 refine ⟨fun h1 h2 => ?_, fun h1 h2 h3 => ?_⟩
 ·have := h.1 (by omega) (by omega)
  rwa [e _ h1, e _ h2] at this
 ·have := h.2 (by omega) (by omega) (by omega)
  rwa [e _ h1, e _ h2, e _ h3] at this
theorem countP_range {n : Nat} {α : Type} (h : Nat → α) (p : α → Bool) : ((List.range n).map h).countP p = sumN (fun c => if p (h c) = true then 1 else 0) n := by
 induction n with
 | zero => rfl
 | succ n ih => rw [List.range_succ, List.map_append, List.countP_append, ih, sumN, List.map_singleton, List.countP_singleton]
theorem countP_flat {n : Nat} (p : List Int → Bool) (l : List (List Int)) : (l.flatMap (fun g => (List.range n).map (fun c => ((c : Nat) : Int) :: g))).countP p = sumN (fun c => l.countP (fun g => p ((c : Int) :: g))) n := by
 induction l with
 | nil => rw [List.flatMap_nil, List.countP_nil, sumN_zero (fun c _ => List.countP_nil)]
 | cons x l ih =>
  rw [List.flatMap_cons, List.countP_append, ih, countP_range]
  have e : (fun c : Nat => (x :: l).countP (fun g => p ((c : Int) :: g))) = (fun c : Nat => (if p ((c : Int) :: x) = true then 1 else 0) + l.countP (fun g => p ((c : Int) :: g))) := funext fun c => by rw [List.countP_cons, Nat.add_comm]
  rw [e, sumN_add]
noncomputable def cntT (d : Dg) (q : List (List Int)) (p : List Int) : Nat := (gens q.length (2 * d.crs.length + 1 - p.length)).countP (fun f => sB (∀ k, k < d.crs.length → okX d q (p ++ f) (2 * d.crs.length) k))
theorem cntT_split {d : Dg} {q : List (List Int)} {p : List Int} (h : p.length < 2 * d.crs.length + 1) : cntT d q p = sumN (fun c => cntT d q (p ++ [(c : Int)])) q.length := by
 unfold cntT
 have e : 2 * d.crs.length + 1 - p.length = (2 * d.crs.length - p.length) + 1 := by omega
 rw [e, gens, countP_flat]
 congr 1
 funext c
 rw [List.length_append, List.length_singleton, show 2 * d.crs.length + 1 - (p.length + 1) = 2 * d.crs.length - p.length by omega]
 simp only [List.append_assoc, List.singleton_append]
theorem cntT_no {d : Dg} {q : List (List Int)} {p : List Int} {a k : Nat} (ha : a < p.length) (hm : a ≤ 2 * d.crs.length) (hk : k < d.crs.length) (h : ¬ okX d q p a k) : cntT d q p = 0 := by
 unfold cntT
 rw [List.countP_eq_zero]
 intro f _ h1
 exact h (okX_pre ha hm (sB_iff.1 h1 k hk))
theorem cntT_end {d : Dg} {q : List (List Int)} {p : List Int} (hl : p.length = 2 * d.crs.length + 1) (h : ∀ k, k < d.crs.length → okX d q p (2 * d.crs.length) k) : cntT d q p = 1 := by
 unfold cntT
 rw [hl, Nat.sub_self, gens, List.countP_singleton, if_pos (sB_iff.2 (by simpa using h))]
theorem cntT_le (d : Dg) (q : List (List Int)) (p : List Int) : cntT d q p ≤ q.length ^ (2 * d.crs.length + 1 - p.length) := by
 unfold cntT; rw [← length_gens]; exact List.countP_le_length
end Go.Proofs.Ytefkjfcncpmneaa
