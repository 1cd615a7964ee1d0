/- Walks printed by eng.py. -/
import Derived.Test.YtlbpgnimpcflaaaG2
set_option linter.unusedSimpArgs false
set_option linter.unusedVariables false
namespace Go.Proofs.Ytlbpgnimpcflaaa
open Go.ChangeShapes Go.WideShapes Go.ChangeAt Go.RowKit
theorem okL_of {n : Nat} {l : List (List Vi)} (h : badL n l = false) : okL n l l.length := by
  intro i hi j hj
  unfold badL at h
  rw [List.any_eq_false] at h
  have h1 := h i (by simpa using hi)
  unfold badP at h1
  rw [Bool.not_eq_true, List.any_eq_false] at h1
  have h2 := h1 j (by simpa using hj)
  rw [decide_eq_true_eq] at h2
  omega
theorem buildE_ok {n : Nat} {l : List (List Vi)} {loops : Int} (h : buildE n l loops = 0) : n ≤ 16 ∧ 0 ≤ loops ∧ loops ≤ 16 ∧ okL n l l.length ∧ twB n l = true ∧ emT (decide ((n : Int) + loops = 0)) l l.length = false := by
  unfold buildE at h
  split at h
  · cases h
  · split at h
    · cases h
    · split at h
      · cases h
      · split at h
        · cases h
        · rename_i h1 h2 h3 h4
          exact ⟨by omega, by omega, by omega, okL_of (by simpa using h2), by simpa using h3, by simpa using h4⟩
structure BA where
  bl : List I2
  ab : List I2
/-- The arcs of the visit j of a part of len visits. -/
def arcV (x : Int) (len j : Nat) : I2 := ⟨wr (x + (j : Int)), wr (x + ((j : Int) + 1) % (len : Int))⟩
def drawV (p : List Vi) (x : Int) (s : BA) (k : Nat) : BA := (List.range k).foldl (fun s j => if (ga p j).o = true then ⟨s.bl, s.ab.set (ga p j).c.toNat (arcV x p.length j)⟩ else ⟨s.bl.set (ga p j).c.toNat (arcV x p.length j), s.ab⟩) s
theorem drawV_succ (p : List Vi) (x : Int) (s : BA) (k : Nat) : drawV p x s (k + 1) = if (ga p k).o = true then ⟨(drawV p x s k).bl, (drawV p x s k).ab.set (ga p k).c.toNat (arcV x p.length k)⟩ else ⟨(drawV p x s k).bl.set (ga p k).c.toNat (arcV x p.length k), (drawV p x s k).ab⟩ := by
  unfold drawV; rw [List.range_succ, List.foldl_append]; rfl
def drawL (l : List (List Vi)) (s : BA × Int) (k : Nat) : BA × Int := (List.range k).foldl (fun s i => (drawV (ga l i) s.2 s.1 (ga l i).length, wr (s.2 + ((ga l i).length : Int)))) s
theorem drawL_succ (l : List (List Vi)) (s : BA × Int) (k : Nat) : drawL l s (k + 1) = (drawV (ga l k) (drawL l s k).2 (drawL l s k).1 (ga l k).length, wr ((drawL l s k).2 + ((ga l k).length : Int))) := by
  unfold drawL; rw [List.range_succ, List.foldl_append]; rfl
def ba0 (n : Nat) : BA := ⟨List.replicate n ⟨0, 0⟩, List.replicate n ⟨0, 0⟩⟩
def crsL (plus : List Bool) (s : BA) (k : Nat) : List Cr := (List.range k).map fun c => makeC (ga s.bl c).a (ga s.bl c).b (ga s.ab c).a (ga s.ab c).b (ga plus c)
theorem crsL_succ (plus : List Bool) (s : BA) (k : Nat) : crsL plus s (k + 1) = crsL plus s k ++ [makeC (ga s.bl k).a (ga s.bl k).b (ga s.ab k).a (ga s.ab k).b (ga plus k)] := by unfold crsL; rw [List.range_succ, List.map_append]; rfl
theorem crsL_len (plus : List Bool) (s : BA) (k : Nat) : (crsL plus s k).length = k := by simp [crsL]
def buildR (l : List (List Vi)) (plus : List Bool) (loops : Int) : Dg × Int :=
  if buildE plus.length l loops ≠ 0 then (⟨[], 0⟩, buildE plus.length l loops) else (⟨crsL plus (drawL l (ba0 plus.length, 1) l.length).1 plus.length, loops⟩, 0)

noncomputable def Build_n0 : Code := Try.f12.body.getD .skip
noncomputable def Build_n1 : Code := cL Build_n0
noncomputable def Build_n2 : Code := cR Build_n0
noncomputable def Build_n3 : Code := cL Build_n2
noncomputable def Build_n4 : Code := cR Build_n2
noncomputable def Build_n5 : Code := cL Build_n3
noncomputable def Build_n6 : Code := cR Build_n3
noncomputable def Build_n7 : Code := cL Build_n6
noncomputable def Build_n8 : Code := cR Build_n6
noncomputable def Build_n9 : Code := cL Build_n8
noncomputable def Build_n10 : Code := cR Build_n8
noncomputable def Build_n11 : Code := cL Build_n9
noncomputable def Build_n12 : Code := cR Build_n9
noncomputable def Build_n13 : Code := cL Build_n4
noncomputable def Build_n14 : Code := cR Build_n4
noncomputable def Build_n15 : Code := cL Build_n14
noncomputable def Build_n16 : Code := cR Build_n14
noncomputable def Build_n17 : Code := cL Build_n16
noncomputable def Build_n18 : Code := cR Build_n16
noncomputable def Build_n19 : Code := cL Build_n17
noncomputable def Build_n20 : Code := cR Build_n17
noncomputable def Build_n21 : Code := cL Build_n20
noncomputable def Build_n22 : Code := cL Build_n21
noncomputable def Build_n23 : Code := cL Build_n22
noncomputable def Build_n24 : Code := cR Build_n22
noncomputable def Build_n25 : Code := cL Build_n24
noncomputable def Build_n26 : Code := cR Build_n24
noncomputable def Build_n27 : Code := cL Build_n25
noncomputable def Build_n28 : Code := cR Build_n25
noncomputable def Build_n29 : Code := cL Build_n26
noncomputable def Build_n30 : Code := cR Build_n26
noncomputable def Build_n31 : Code := cL Build_n29
noncomputable def Build_n32 : Code := cL Build_n31
noncomputable def Build_n33 : Code := cR Build_n31
noncomputable def Build_n34 : Code := cL Build_n33
noncomputable def Build_n35 : Code := cR Build_n33
noncomputable def Build_n36 : Code := cL Build_n34
noncomputable def Build_n37 : Code := cR Build_n34
noncomputable def Build_n38 : Code := cL Build_n37
noncomputable def Build_n39 : Code := cL Build_n38
noncomputable def Build_n40 : Code := cL Build_n39
noncomputable def Build_n41 : Code := cR Build_n39
noncomputable def Build_n42 : Code := cL Build_n41
noncomputable def Build_n43 : Code := cR Build_n41
noncomputable def Build_n44 : Code := cL Build_n42
noncomputable def Build_n45 : Code := cR Build_n42
noncomputable def Build_n46 : Code := cL Build_n43
noncomputable def Build_n47 : Code := cR Build_n43
noncomputable def Build_n48 : Code := cL Build_n46
noncomputable def Build_n49 : Code := cL Build_n48
noncomputable def Build_n50 : Code := cR Build_n48
noncomputable def Build_n51 : Code := cL Build_n50
noncomputable def Build_n52 : Code := cR Build_n50
noncomputable def Build_n53 : Code := cL Build_n52
noncomputable def Build_n54 : Code := cR Build_n52
noncomputable def Build_n55 : Code := cL Build_n54
noncomputable def Build_n56 : Code := cR Build_n54
noncomputable def Build_n57 : Code := cL Build_n18
noncomputable def Build_n58 : Code := cR Build_n18
noncomputable def Build_n59 : Code := cL Build_n58
noncomputable def Build_n60 : Code := cR Build_n58
noncomputable def Build_n61 : Code := cL Build_n59
noncomputable def Build_n62 : Code := cR Build_n59
noncomputable def Build_n63 : Code := cL Build_n62
noncomputable def Build_n64 : Code := cL Build_n63
noncomputable def Build_n65 : Code := cL Build_n64
noncomputable def Build_n66 : Code := cR Build_n64
noncomputable def Build_n67 : Code := cL Build_n66
noncomputable def Build_n68 : Code := cR Build_n66
noncomputable def Build_n69 : Code := cL Build_n67
noncomputable def Build_n70 : Code := cR Build_n67
noncomputable def Build_n71 : Code := cL Build_n68
noncomputable def Build_n72 : Code := cR Build_n68
noncomputable def Build_n73 : Code := cL Build_n71
noncomputable def Build_n74 : Code := cL Build_n73
noncomputable def Build_n75 : Code := cR Build_n73
noncomputable def Build_n76 : Code := cL Build_n60
noncomputable def Build_n77 : Code := cR Build_n60
set_option maxRecDepth 10000 in
theorem Build_t {w : World} {M : Hp} {X : Fr} (l : List (List Vi)) {lA : Option Addr} {lc : Nat} {lv : List SlV} (plus : List Bool) {plusA : Option Addr} {plusc : Nat} (loops : Int) (hl : RdA (cdV 24) (M.un X.h) lA lc lv) (hdl : Rd2 cdVi (M.un X.h) lv l) (hplus : RdA cdBool (M.un X.h) plusA plusc plus) (hlw : -9223372036854775808 ≤ loops ∧ loops ≤ 9223372036854775807) (S : SH w M X []) : Ct Try.prog 12 [.slice lA lv.length lc, .slice plusA plus.length plusc, .int .i64 loops] w M X (DgE (buildR l plus loops)) := by
  unfold Ct
  have rmhl : lv.length * 24 ≤ 140737488355328 := hl.room
  have rmhplus : plus.length * 1 ≤ 140737488355328 := hplus.room
  have hlv0 := hdl.1
  refine calls_in (b := Build_n0) Try.func12 rfl Try.ntmps12 rfl (fun C hC => ?_)
  refine ws_sub [(0, _), (1, _), (2, _)] ⟨rfl, rfl, rfl, trivial⟩ ?_
  refine ws_seqN Build_n1 Build_n2 rfl rfl rfl ?_
  refine ws_region rfl ?_
  refine wl_op (k := 0) (k' := 1) rfl rfl rfl (wo_alloc (l := [_, _]) rfl rfl rfl zr27 rfl S ?_)
  intro gb1 w1 S1; clear S
  refine wl_op (k := 1) (k' := 2) rfl rfl rfl (wo_run rfl rfl (run_assign rfl rfl) ?_)
  refine wl_end rfl ?_
  refine nm_sub [(0, _), (1, _), (2, _), (6, _)] ⟨rfl, rfl, rfl, rfl, trivial⟩ ?_
  refine nm_thn ?_
  refine ws_seqN Build_n3 Build_n4 rfl rfl rfl ?_
  refine ws_seqN Build_n5 Build_n6 rfl rfl rfl ?_
  refine ws_region rfl ?_
  refine wl_op (k := 0) (k' := 1) rfl rfl rfl (wo_run rfl rfl (run_move rfl rfl) ?_)
  refine wl_op (k := 1) (k' := 2) rfl rfl rfl (wo_run rfl rfl (run_move rfl rfl) ?_)
  refine wl_op (k := 2) (k' := 3) rfl rfl rfl (wo_run rfl rfl (run_move rfl rfl) ?_)
  refine wl_op (k := 3) (k' := 4) rfl rfl rfl (wo_cq rfl rfl rfl rfl rfl rfl rfl cf51 S1 (check_q l plus loops (hl.mono S1.un_XH) (hdl.mono S1.un_XH) (hplus.mono S1.un_XH) (by omega) S1.lend) ?_)
  rintro _ w2 S2 rfl; clear S1
  refine wl_op (k := 4) (k' := 5) rfl rfl rfl (wo_run rfl rfl (run_assign rfl rfl) ?_)
  refine wl_end rfl ?_
  refine nm_sub [(0, _), (1, _), (2, _), (6, _), (8, _)] ⟨rfl, rfl, rfl, rfl, rfl, trivial⟩ ?_
  refine nm_thn ?_
  refine ws_seqN Build_n7 Build_n8 rfl rfl rfl ?_
  refine ws_region rfl ?_
  refine wl_op (k := 0) (k' := 1) rfl rfl rfl (wo_run rfl rfl (run_move rfl rfl) ?_)
  refine wl_op (k := 1) (k' := 2) rfl rfl rfl (wo_run rfl rfl (run_neq rfl rfl rfl) ?_)
  refine wl_end rfl ?_
  refine nm_sub [(0, _), (1, _), (2, _), (6, _), (8, _), (25, _)] ⟨rfl, rfl, rfl, rfl, rfl, rfl, trivial⟩ ?_
  refine nm_thn ?_
  refine ws_condN Build_n9 Build_n10 rfl rfl rfl rfl (fun hb25 => ?_) (fun hb25 => ?_)
  · have hb25 := of_decide_eq_true hb25
    refine ws_seqN Build_n11 Build_n12 rfl rfl rfl ?_
    refine ws_region rfl ?_
    refine wl_op (k := 0) (k' := 1) rfl rfl rfl (wo_run rfl rfl (run_build (l := [_, _]) rfl rfl st27 rfl rfl) ?_)
    refine wl_op (k := 1) (k' := 2) rfl rfl rfl (wo_run rfl rfl (run_move rfl rfl) ?_)
    refine wl_op (k := 2) (k' := 3) rfl rfl rfl (wo_storeB (i := 0) (us := [_, _]) (l' := [_, _]) (H' := [_]) rfl rfl S2 rfl rfl rfl rfl sz27 rfl rfl rfl rfl ?_)
    intro w3 S3; clear S2
    refine wl_op (k := 3) (k' := 4) rfl rfl rfl (wo_run rfl rfl (run_assign rfl rfl) ?_)
    refine wl_end rfl ?_
    refine nm_sub [(6, _), (7, _)] ⟨rfl, rfl, trivial⟩ ?_
    refine nm_thn ?_
    refine ws_ret hC [_, _] rfl rfl ⟨⟨_, rfl, loadVarN (us := [_, _]) Try.underlying27 rfl sz27 (S3.boxcs (i := 0) rfl ⟨rfl, rfl, trivial⟩)⟩, rfl, trivial⟩ ?_
    refine ⟨_, rfl, _, Hp.le_refl _, (S3.pick [] [] (by decide) trivial), ?_⟩
    unfold buildR
    rw [if_pos (by omega)]
    exact ⟨none, 0, rfl, RdA.nil_⟩
  · have hb25 := of_decide_eq_false hb25
    have hE : buildE plus.length l loops = 0 := by omega
    obtain ⟨hn16, hl0, hl1, hokl, _, _⟩ := buildE_ok hE
    refine ws_skip rfl ?_
    refine nm_sub [(0, _), (1, _), (2, _), (6, _)] ⟨rfl, rfl, rfl, rfl, trivial⟩ ?_
    refine nm_thn ?_
    refine ws_seqN Build_n13 Build_n14 rfl rfl rfl ?_
    refine ws_cut (fun ax_ wx_ => ∃ (vbl : Value) (vab : Value) (M1 : Hp), M.le M1 ∧ Env 102 [(0, .slice lA lv.length lc), (1, .slice plusA plus.length plusc), (2, .int .i64 loops), (6, .pointer (some ⟨gb1, 0, none⟩)), (9, vbl), (10, vab)] ax_ ∧ SH wx_ M1 X [Rs.row cdI2 vbl (List.replicate plus.length cdI2.z), Rs.row cdI2 vab (List.replicate plus.length cdI2.z), Rs.box gb1 27 [.slice none 0 0, .int .i64 0]]) ?_ ?_
    · refine ws_draw rfl (by kernel_rfl) S2 8 rfl ?_
      clear S2
      refine wa_takeP (i := 0) (d := 28) 7 rfl (by kernel_rfl) (by kernel_rfl) (by kernel_rfl) rfl rfl rfl (fun w5 => run_move rfl rfl) ?_
      refine wa_take (i := 1) (d := 29) 6 rfl (by kernel_rfl) (by kernel_rfl) (by kernel_rfl) rfl rfl rfl (fun M3 N2 w6 hle3 S6 => .inl (run_len rfl rfl rfl rfl rfl rfl Try.underlying23)) ?_
      refine wa_takeP (i := 3) (d := 31) 5 rfl (by kernel_rfl) (by kernel_rfl) (by kernel_rfl) rfl rfl rfl (fun w8 => run_move rfl rfl) ?_
      refine wa_take (i := 4) (d := 32) 4 rfl (by kernel_rfl) (by kernel_rfl) (by kernel_rfl) rfl rfl rfl (fun M7 N6 w10 hle7 S10 => .inl (run_len rfl rfl rfl rfl rfl rfl Try.underlying23)) ?_
      refine wa_two (i := 2) (j := 5) 3 rfl rfl (by kernel_rfl) rfl rfl rfl rfl (fun w13 S13 => ?_) (fun w13 S13 => ?_)
      · refine (wo_make (C := cdI2) plus.length rfl rfl rfl rfl rfl sl68 (by first | rfl | omega) (by show _ * 16 ≤ _; first | omega | (simp only [List.length_set, List.length_append, List.length_replicate, List.length_singleton, List.length_cons, List.length_nil]; omega)) S13 ?_)
        intro vr1 w14 S14; clear S13
        refine LeftW.grow [_] (Hp.le_refl _) S14 ?_; clear S14
        change WA _ _ _ _ _ _ _ _ _ _ _ _ [_, _]
        refine wa_takeP (i := 6) (d := 9) 2 rfl (by kernel_rfl) (by kernel_rfl) (by kernel_rfl) rfl rfl rfl (fun w16 => run_assign rfl rfl) ?_
        refine wa_only (i := 5) 1 rfl (by kernel_rfl) rfl rfl (fun w18 S18 => ?_)
        refine (wo_make (C := cdI2) plus.length rfl rfl rfl rfl rfl sl68 (by first | rfl | omega) (by show _ * 16 ≤ _; first | omega | (simp only [List.length_set, List.length_append, List.length_replicate, List.length_singleton, List.length_cons, List.length_nil]; omega)) S18 ?_)
        intro vr2 w19 S19; clear S18
        refine LeftW.grow [_, _] (Hp.le_refl _) S19 ?_; clear S19
        change WA _ _ _ _ _ _ _ _ _ _ _ _ [_, _, _]
        refine wa_takeP (i := 7) (d := 10) 0 rfl (by kernel_rfl) (by kernel_rfl) (by kernel_rfl) rfl rfl rfl (fun w20 => run_assign rfl rfl) ?_
        refine wa_end (by kernel_rfl) (fun w21 S21 => ?_)
        refine nm_lp ?_
        intro ax_ hax_
        refine ⟨_, _, _, (Hp.le_refl _), hax_.sub ⟨rfl, rfl, rfl, rfl, rfl, rfl, trivial⟩, S21.pick [1, 0, 2] [_, _, _] (by decide) ⟨rfl, rfl, rfl, trivial⟩⟩
      · refine (wo_make (C := cdI2) plus.length rfl rfl rfl rfl rfl sl68 (by first | rfl | omega) (by show _ * 16 ≤ _; first | omega | (simp only [List.length_set, List.length_append, List.length_replicate, List.length_singleton, List.length_cons, List.length_nil]; omega)) S13 ?_)
        intro vr3 w22 S22; clear S13
        refine LeftW.grow [_] (Hp.le_refl _) S22 ?_; clear S22
        change WA _ _ _ _ _ _ _ _ _ _ _ _ [_, _]
        refine wa_only (i := 2) 2 rfl (by kernel_rfl) rfl rfl (fun w24 S24 => ?_)
        refine (wo_make (C := cdI2) plus.length rfl rfl rfl rfl rfl sl68 (by first | rfl | omega) (by show _ * 16 ≤ _; first | omega | (simp only [List.length_set, List.length_append, List.length_replicate, List.length_singleton, List.length_cons, List.length_nil]; omega)) S24 ?_)
        intro vr4 w25 S25; clear S24
        refine LeftW.grow [_, _] (Hp.le_refl _) S25 ?_; clear S25
        change WA _ _ _ _ _ _ _ _ _ _ _ _ [_, _, _]
        refine wa_takeP (i := 6) (d := 9) 1 rfl (by kernel_rfl) (by kernel_rfl) (by kernel_rfl) rfl rfl rfl (fun w26 => run_assign rfl rfl) ?_
        refine wa_takeP (i := 7) (d := 10) 0 rfl (by kernel_rfl) (by kernel_rfl) (by kernel_rfl) rfl rfl rfl (fun w27 => run_assign rfl rfl) ?_
        refine wa_end (by kernel_rfl) (fun w28 S28 => ?_)
        refine nm_lp ?_
        intro ax_ hax_
        refine ⟨_, _, _, (Hp.le_refl _), hax_.sub ⟨rfl, rfl, rfl, rfl, rfl, rfl, trivial⟩, S28.pick [0, 1, 2] [_, _, _] (by decide) ⟨rfl, rfl, rfl, trivial⟩⟩
    · rintro a1 w4 ⟨vbl, vab, M1, hle1, he1, S4⟩
      clear S2
      refine nm_in he1 ?_
      clear he1 a1
      replace hl := hl.mono (Hp.un_mono hle1 S4.mx)
      replace hdl := hdl.mono (Hp.un_mono hle1 S4.mx)
      replace hplus := hplus.mono (Hp.un_mono hle1 S4.mx)
      refine nm_thn ?_
      refine ws_seqN Build_n15 Build_n16 rfl rfl rfl ?_
      refine ws_region rfl ?_
      refine wl_op (k := 0) (k' := 1) rfl rfl rfl (wo_run rfl rfl (run_assign rfl rfl) ?_)
      refine wl_end rfl ?_
      refine nm_thn ?_
      refine ws_seqN Build_n17 Build_n18 rfl rfl rfl ?_
      refine ws_seqN Build_n19 Build_n20 rfl rfl rfl ?_
      refine ws_region rfl ?_
      refine wl_op (k := 0) (k' := 1) rfl rfl rfl (wo_run rfl rfl (run_move rfl rfl) ?_)
      refine wl_op (k := 1) (k' := 2) rfl rfl rfl (wo_run rfl rfl (run_len rfl rfl rfl rfl rfl rfl Try.underlying22) ?_)
      refine wl_op (k := 2) (k' := 3) rfl rfl rfl (wo_run rfl rfl (run_move rfl rfl) ?_)
      refine wl_end rfl ?_
      refine nm_sub [(1, _), (2, _), (6, _), (9, _), (10, _), (11, _), (34, _), (35, _), (36, _)] ⟨rfl, rfl, rfl, rfl, rfl, rfl, rfl, rfl, rfl, trivial⟩ ?_
      refine nm_thn ?_
      refine ws_blockN Build_n21 0 rfl rfl rfl ?_
      refine ws_loopE (fun mx_ ax_ wx_ => ∃ (i : Nat) (bl : List I2) (ab : List I2) (x : Int) (vrb0 : Value) (vra0 : Value), mx_ = lv.length - i ∧ Env 102 [(1, .slice plusA plus.length plusc), (2, .int .i64 loops), (6, .pointer (some ⟨gb1, 0, none⟩)), (9, vrb0), (10, vra0), (11, .int .i64 x), (34, .slice lA lv.length lc), (35, .int .i64 (lv.length : Int)), (36, .int .i64 (i : Int))] ax_ ∧ SH wx_ M1 X [Rs.row cdI2 vrb0 bl, Rs.row cdI2 vra0 ab, Rs.box gb1 27 [.slice none 0 0, .int .i64 0]] ∧ i ≤ lv.length ∧ drawL l (ba0 plus.length, 1) i = (⟨bl, ab⟩, x) ∧ bl.length = plus.length ∧ ab.length = plus.length) rfl ?_ ?_
      · intro ax_ hax_
        refine ⟨_, ⟨0, _, _, 1, _, _, rfl, hax_.sub ⟨rfl, rfl, rfl, rfl, rfl, rfl, rfl, rfl, rfl, trivial⟩, S4.pick [0, 1, 2] [_, _, _] (by decide) ⟨rfl, rfl, rfl, trivial⟩, ?hq3f0, ?hq3f1, ?hq3f2, ?hq3f3⟩⟩
        case hq3f0 => omega
        case hq3f1 => rfl
        case hq3f2 => simp
        case hq3f3 => simp
      · rintro m1 a2 w29 ⟨i, bl, ab, x, vrb0, vra0, rfl, he2, S29, hi, hdr, hbl, hab⟩
        clear S4
        refine ws_in he2 (c := Build_n22) rfl ?_
        clear he2 a2
        refine ws_seqN Build_n23 Build_n24 rfl rfl rfl ?_
        refine ws_region rfl ?_
        refine wl_op (k := 0) (k' := 1) rfl rfl rfl (wo_run rfl rfl (run_lss rfl rfl rfl) ?_)
        refine wl_end rfl ?_
        refine nm_thn ?_
        refine ws_seqN Build_n25 Build_n26 rfl rfl rfl ?_
        refine ws_condN Build_n27 Build_n28 rfl rfl rfl rfl (fun hb37 => ?_) (fun hb37 => ?_)
        · have hb37 := of_decide_eq_true hb37
          refine ws_skip rfl ?_
          refine nm_sub [(1, _), (2, _), (6, _), (9, _), (10, _), (11, _), (34, _), (35, _), (36, _)] ⟨rfl, rfl, rfl, rfl, rfl, rfl, rfl, rfl, rfl, trivial⟩ ?_
          refine nm_thn ?_
          refine ws_seqN Build_n29 Build_n30 rfl rfl rfl ?_
          refine ws_blockN Build_n31 1 rfl rfl rfl ?_
          refine ws_seqN Build_n32 Build_n33 rfl rfl rfl ?_
          refine ws_region rfl ?_
          refine wl_op (k := 0) (k' := 1) rfl rfl rfl (wo_run rfl rfl (run_indexM (C := (cdV 24)) i rfl rfl rfl sl22 (by first | rfl | omega) hl (by first | omega | (simp only [List.length_set, List.length_append, List.length_replicate, List.length_singleton, List.length_cons, List.length_nil]; omega))) ?_)
          obtain ⟨hn1, hr1⟩ := hdl.2 i (by first | omega | (simp only [List.length_set, List.length_append, List.length_replicate, List.length_singleton, List.length_cons, List.length_nil]; omega))
          have rmhr1 : (ga l i).length * 16 ≤ 140737488355328 := hr1.room
          refine wl_op (k := 1) (k' := 2) rfl rfl rfl (wo_run rfl rfl (run_load1 rfl rfl Try.underlying24 rfl (hl.cell S29.um (i := i) (by first | omega | (simp only [List.length_set, List.length_append, List.length_replicate, List.length_singleton, List.length_cons, List.length_nil]; omega)) 0 rfl (congrArg (fun n => some (Value.slice _ n _)) hn1))) ?_)
          refine wl_op (k := 2) (k' := 3) rfl rfl rfl (wo_run rfl rfl (run_assign rfl rfl) ?_)
          refine wl_end rfl ?_
          refine nm_sub [(1, _), (2, _), (6, _), (9, _), (10, _), (11, _), (34, _), (35, _), (36, _), (13, _)] ⟨rfl, rfl, rfl, rfl, rfl, rfl, rfl, rfl, rfl, rfl, trivial⟩ ?_
          refine nm_thn ?_
          refine ws_seqN Build_n34 Build_n35 rfl rfl rfl ?_
          refine ws_seqN Build_n36 Build_n37 rfl rfl rfl ?_
          refine ws_region rfl ?_
          refine wl_op (k := 0) (k' := 1) rfl rfl rfl (wo_run rfl rfl (run_move rfl rfl) ?_)
          refine wl_op (k := 1) (k' := 2) rfl rfl rfl (wo_run rfl rfl (run_len rfl rfl rfl rfl rfl rfl Try.underlying24) ?_)
          refine wl_op (k := 2) (k' := 3) rfl rfl rfl (wo_run rfl rfl (run_move rfl rfl) ?_)
          refine wl_end rfl ?_
          refine nm_thn ?_
          refine ws_blockN Build_n38 2 rfl rfl rfl ?_
          refine ws_loopE (fun mx_ ax_ wx_ => ∃ (j : Nat) (bl2 : List I2) (ab2 : List I2) (vrb1 : Value) (vra1 : Value), mx_ = (ga l i).length - j ∧ Env 102 [(1, .slice plusA plus.length plusc), (2, .int .i64 loops), (6, .pointer (some ⟨gb1, 0, none⟩)), (9, vrb1), (10, vra1), (11, .int .i64 x), (34, .slice lA lv.length lc), (35, .int .i64 (lv.length : Int)), (36, .int .i64 (i : Int)), (13, .slice ((ga lv i).A) (ga l i).length ((ga lv i).c)), (40, .slice ((ga lv i).A) (ga l i).length ((ga lv i).c)), (41, .int .i64 ((ga l i).length : Int)), (42, .int .i64 (j : Int))] ax_ ∧ SH wx_ M1 X [Rs.row cdI2 vrb1 bl2, Rs.row cdI2 vra1 ab2, Rs.box gb1 27 [.slice none 0 0, .int .i64 0]] ∧ j ≤ (ga l i).length ∧ drawV (ga l i) x ⟨bl, ab⟩ j = ⟨bl2, ab2⟩ ∧ bl2.length = plus.length ∧ ab2.length = plus.length) rfl ?_ ?_
          · intro ax_ hax_
            refine ⟨_, ⟨0, _, _, _, _, rfl, hax_.sub ⟨rfl, rfl, rfl, rfl, rfl, rfl, rfl, rfl, rfl, rfl, rfl, rfl, rfl, trivial⟩, S29.pick [0, 1, 2] [_, _, _] (by decide) ⟨rfl, rfl, rfl, trivial⟩, ?hq4f0, ?hq4f1, ?hq4f2, ?hq4f3⟩⟩
            case hq4f0 => omega
            case hq4f1 => rfl
            case hq4f2 => assumption
            case hq4f3 => assumption
          · rintro m2 a3 w30 ⟨j, bl2, ab2, vrb1, vra1, rfl, he3, S30, hj, hdv, hbl2, hab2⟩
            clear S29
            refine ws_in he3 (c := Build_n39) rfl ?_
            clear he3 a3
            have hokj : j < (ga l i).length → (ga (ga l i) j).c.toNat < plus.length ∧ (ga (ga l i) j).c = ((ga (ga l i) j).c.toNat : Int) := fun h => (by have h9 := hokl i (by omega) j h; omega)
            refine ws_seqN Build_n40 Build_n41 rfl rfl rfl ?_
            refine ws_region rfl ?_
            refine wl_op (k := 0) (k' := 1) rfl rfl rfl (wo_run rfl rfl (run_lss rfl rfl rfl) ?_)
            refine wl_end rfl ?_
            refine nm_thn ?_
            refine ws_seqN Build_n42 Build_n43 rfl rfl rfl ?_
            refine ws_condN Build_n44 Build_n45 rfl rfl rfl rfl (fun hb43 => ?_) (fun hb43 => ?_)
            · have hb43 := of_decide_eq_true hb43
              refine ws_skip rfl ?_
              refine nm_sub [(1, _), (2, _), (6, _), (9, _), (10, _), (11, _), (34, _), (35, _), (36, _), (13, _), (40, _), (41, _), (42, _)] ⟨rfl, rfl, rfl, rfl, rfl, rfl, rfl, rfl, rfl, rfl, rfl, rfl, rfl, trivial⟩ ?_
              refine nm_thn ?_
              refine ws_seqN Build_n46 Build_n47 rfl rfl rfl ?_
              refine ws_blockN Build_n48 3 rfl rfl rfl ?_
              refine ws_seqN Build_n49 Build_n50 rfl rfl rfl ?_
              refine ws_region rfl ?_
              refine wl_op (k := 0) (k' := 1) rfl rfl rfl (wo_run rfl rfl (run_move rfl rfl) ?_)
              refine wl_op (k := 1) (k' := 2) rfl rfl rfl (wo_run rfl rfl (run_indexM (C := cdVi) j rfl rfl rfl sl24 (by first | rfl | omega) hr1 (by first | omega | (simp only [List.length_set, List.length_append, List.length_replicate, List.length_singleton, List.length_cons, List.length_nil]; omega))) ?_)
              refine wl_op (k := 2) (k' := 3) rfl rfl rfl (wo_run rfl rfl (run_loadN (us := [_, _]) rfl rfl Try.underlying70 rfl sz70 (hr1.cellsAt S30.um (e := j) (by first | omega | (simp only [List.length_set, List.length_append, List.length_replicate, List.length_singleton, List.length_cons, List.length_nil]; omega)) (j := 0) ⟨rfl, rfl, trivial⟩)) ?_)
              refine wl_op (k := 3) (k' := 4) rfl rfl rfl (wo_alloc (l := [_, _]) rfl rfl rfl zr70 rfl S30 ?_)
              intro gb2 w31 S31; clear S30
              refine wl_op (k := 4) (k' := 5) rfl rfl rfl (wo_run rfl rfl (run_assign rfl rfl) ?_)
              refine wl_op (k := 5) (k' := 6) rfl rfl rfl (wo_storeB (i := 0) (us := [_, _]) (l' := [_, _]) (H' := [_, _, _, _]) rfl rfl S31 rfl rfl rfl rfl sz70 rfl rfl rfl rfl ?_)
              intro w32 S32; clear S31
              refine wl_end rfl ?_
              refine nm_sub [(1, _), (2, _), (6, _), (9, _), (10, _), (11, _), (34, _), (35, _), (36, _), (13, _), (40, _), (41, _), (42, _), (15, _), (14, _)] ⟨rfl, rfl, rfl, rfl, rfl, rfl, rfl, rfl, rfl, rfl, rfl, rfl, rfl, rfl, rfl, trivial⟩ ?_
              refine nm_thn ?_
              refine ws_seqN Build_n51 Build_n52 rfl rfl rfl ?_
              refine ws_region rfl ?_
              refine wl_op (k := 0) (k' := 1) rfl rfl rfl (wo_run rfl rfl (run_move rfl rfl) ?_)
              refine wl_op (k := 1) (k' := 2) rfl rfl rfl (wo_run rfl rfl (run_move rfl rfl) ?_)
              refine wl_op (k := 2) (k' := 3) rfl rfl rfl (wo_run rfl rfl (run_addW rfl rfl rfl) ?_)
              refine wl_op (k := 3) (k' := 4) rfl rfl rfl (wo_run rfl rfl (run_move rfl rfl) ?_)
              refine wl_op (k := 4) (k' := 5) rfl rfl rfl (wo_run rfl rfl (run_move rfl rfl) ?_)
              refine wl_op (k := 5) (k' := 6) rfl rfl rfl (wo_run rfl rfl (run_add rfl rfl rfl (by first | omega | (simp only [List.length_set, List.length_append, List.length_replicate, List.length_singleton, List.length_cons, List.length_nil]; omega))) ?_)
              refine wl_op (k := 6) (k' := 7) rfl rfl rfl (wo_run rfl rfl (run_move rfl rfl) ?_)
              refine wl_op (k := 7) (k' := 8) rfl rfl rfl (wo_run rfl rfl (run_len rfl rfl rfl rfl rfl rfl Try.underlying24) ?_)
              refine wl_op (k := 8) (k' := 9) rfl rfl rfl (wo_run rfl rfl (run_rem rfl rfl rfl (by first | omega | (simp only [List.length_set, List.length_append, List.length_replicate, List.length_singleton, List.length_cons, List.length_nil]; omega))) ?_)
              refine wl_op (k := 9) (k' := 10) rfl rfl rfl (wo_run rfl rfl (run_addW rfl rfl rfl) ?_)
              refine wl_op (k := 10) (k' := 11) rfl rfl rfl (wo_run rfl rfl (run_buildA (l := [_, _]) (pl := [(0, 1), (1, 1)]) rfl rfl Try.underlying71 zr71 sz3 rfl rfl rfl) ?_)
              refine wl_op (k := 11) (k' := 12) rfl rfl rfl (wo_alloc (l := [_, _]) rfl rfl rfl zr71 rfl S32 ?_)
              intro gb3 w33 S33; clear S32
              refine wl_op (k := 12) (k' := 13) rfl rfl rfl (wo_storeB (i := 0) (us := [_, _]) (l' := [_, _]) (H' := [_, _, _, _, _]) rfl rfl S33 rfl rfl rfl rfl sz71 rfl rfl rfl rfl ?_)
              intro w34 S34; clear S33
              refine wl_end rfl ?_
              refine nm_sub [(1, _), (2, _), (6, _), (9, _), (10, _), (11, _), (34, _), (35, _), (36, _), (13, _), (40, _), (41, _), (42, _), (15, _), (16, _)] ⟨rfl, rfl, rfl, rfl, rfl, rfl, rfl, rfl, rfl, rfl, rfl, rfl, rfl, rfl, rfl, trivial⟩ ?_
              refine nm_thn ?_
              refine ws_seqN Build_n53 Build_n54 rfl rfl rfl ?_
              refine ws_region rfl ?_
              refine wl_op (k := 0) (k' := 1) rfl rfl rfl (wo_run rfl rfl (run_fieldAddr rfl rfl Try.underlying70 rfl (ce4) (nf4)) ?_)
              refine wl_op (k := 1) (k' := 2) rfl rfl rfl (wo_run rfl rfl (run_load1 rfl rfl Try.underlying4 rfl (S34.boxc (i := 1) rfl rfl)) ?_)
              refine wl_end rfl ?_
              refine nm_sub [(1, _), (2, _), (6, _), (9, _), (10, _), (11, _), (34, _), (35, _), (36, _), (13, _), (40, _), (41, _), (42, _), (15, _), (16, _), (59, _)] ⟨rfl, rfl, rfl, rfl, rfl, rfl, rfl, rfl, rfl, rfl, rfl, rfl, rfl, rfl, rfl, rfl, trivial⟩ ?_
              refine nm_thn ?_
              refine ws_condN Build_n55 Build_n56 rfl rfl rfl rfl (fun hb59 => ?_) (fun hb59 => ?_)
              · refine ws_region rfl ?_
                refine wl_op (k := 0) (k' := 1) rfl rfl rfl (wo_run rfl rfl (run_move rfl rfl) ?_)
                refine wl_op (k := 1) (k' := 2) rfl rfl rfl (wo_run rfl rfl (run_fieldAddr rfl rfl Try.underlying70 rfl (ce3) (nf3)) ?_)
                refine wl_op (k := 2) (k' := 3) rfl rfl rfl (wo_run rfl rfl (run_load1 rfl rfl Try.underlying3 rfl (S34.boxc (i := 1) rfl rfl)) ?_)
                refine wl_op (k := 3) (k' := 4) rfl rfl rfl (wo_run rfl rfl (run_loadN (us := [_, _]) rfl rfl Try.underlying71 rfl sz71 (S34.boxcs (i := 0) rfl ⟨rfl, rfl, trivial⟩)) ?_)
                refine wl_op (k := 4) (k' := 5) rfl rfl rfl (wo_run rfl rfl (run_indexR (C := cdI2) (i := 3) (((ga (ga l i) j).c).toNat) rfl rfl rfl sl68 S34 rfl (by first | rfl | omega) (by first | omega | (simp only [List.length_set, List.length_append, List.length_replicate, List.length_singleton, List.length_cons, List.length_nil]; omega))) ?_)
                refine wl_op (k := 5) (k' := 6) rfl rfl rfl (wo_storeR (C := cdI2) (i := 3) (e := ((ga (ga l i) j).c).toNat) (j := 0) (us := [_, _]) (H' := [_, _, _, _, _]) (⟨wr (x + (j : Int)), wr (x + (((j : Int) + 1) % ((ga l i).length : Int)))⟩ : I2) rfl rfl S34 rfl (by first | omega | (simp only [List.length_set, List.length_append, List.length_replicate, List.length_singleton, List.length_cons, List.length_nil]; omega)) rfl rfl rfl sz71 rfl rfl rfl rfl ?_)
                intro w35 S35; clear S34
                refine wl_end rfl ?_
                refine nm_blk ?_
                refine nm_sub [(1, _), (2, _), (6, _), (9, _), (10, _), (11, _), (34, _), (35, _), (36, _), (13, _), (40, _), (41, _), (42, _)] ⟨rfl, rfl, rfl, rfl, rfl, rfl, rfl, rfl, rfl, rfl, rfl, rfl, rfl, trivial⟩ ?_
                refine nm_thn ?_
                refine ws_region rfl ?_
                refine wl_op (k := 0) (k' := 1) rfl rfl rfl (wo_run rfl rfl (run_add rfl rfl rfl (by first | omega | (simp only [List.length_set, List.length_append, List.length_replicate, List.length_singleton, List.length_cons, List.length_nil]; omega))) ?_)
                refine wl_op (k := 1) (k' := 2) rfl rfl rfl (wo_run rfl rfl (run_move rfl rfl) ?_)
                refine wl_end rfl ?_
                refine nm_lp ?_
                intro ax_ hax_
                refine ⟨_, ?hq5m, ⟨j + 1, _, _, _, _, rfl, hax_.sub ⟨rfl, rfl, rfl, rfl, rfl, rfl, rfl, rfl, rfl, rfl, rfl, rfl, rfl, trivial⟩, S35.pick [2, 3, 4] [_, _, _] (by decide) ⟨rfl, rfl, rfl, trivial⟩, ?hq5f0, ?hq5f1, ?hq5f2, ?hq5f3⟩⟩
                case hq5f0 => omega
                case hq5f1 => (rw [drawV_succ, hdv]; unfold arcV; simp only [hb59, if_true, if_false, Bool.false_eq_true])
                case hq5f2 => first | assumption | (rw [List.length_set]; assumption)
                case hq5f3 => first | assumption | (rw [List.length_set]; assumption)
                case hq5m => omega
              · refine ws_region rfl ?_
                refine wl_op (k := 0) (k' := 1) rfl rfl rfl (wo_run rfl rfl (run_move rfl rfl) ?_)
                refine wl_op (k := 1) (k' := 2) rfl rfl rfl (wo_run rfl rfl (run_fieldAddr rfl rfl Try.underlying70 rfl (ce3) (nf3)) ?_)
                refine wl_op (k := 2) (k' := 3) rfl rfl rfl (wo_run rfl rfl (run_load1 rfl rfl Try.underlying3 rfl (S34.boxc (i := 1) rfl rfl)) ?_)
                refine wl_op (k := 3) (k' := 4) rfl rfl rfl (wo_run rfl rfl (run_loadN (us := [_, _]) rfl rfl Try.underlying71 rfl sz71 (S34.boxcs (i := 0) rfl ⟨rfl, rfl, trivial⟩)) ?_)
                refine wl_op (k := 4) (k' := 5) rfl rfl rfl (wo_run rfl rfl (run_indexR (C := cdI2) (i := 2) (((ga (ga l i) j).c).toNat) rfl rfl rfl sl68 S34 rfl (by first | rfl | omega) (by first | omega | (simp only [List.length_set, List.length_append, List.length_replicate, List.length_singleton, List.length_cons, List.length_nil]; omega))) ?_)
                refine wl_op (k := 5) (k' := 6) rfl rfl rfl (wo_storeR (C := cdI2) (i := 2) (e := ((ga (ga l i) j).c).toNat) (j := 0) (us := [_, _]) (H' := [_, _, _, _, _]) (⟨wr (x + (j : Int)), wr (x + (((j : Int) + 1) % ((ga l i).length : Int)))⟩ : I2) rfl rfl S34 rfl (by first | omega | (simp only [List.length_set, List.length_append, List.length_replicate, List.length_singleton, List.length_cons, List.length_nil]; omega)) rfl rfl rfl sz71 rfl rfl rfl rfl ?_)
                intro w36 S36; clear S34
                refine wl_end rfl ?_
                refine nm_blk ?_
                refine nm_sub [(1, _), (2, _), (6, _), (9, _), (10, _), (11, _), (34, _), (35, _), (36, _), (13, _), (40, _), (41, _), (42, _)] ⟨rfl, rfl, rfl, rfl, rfl, rfl, rfl, rfl, rfl, rfl, rfl, rfl, rfl, trivial⟩ ?_
                refine nm_thn ?_
                refine ws_region rfl ?_
                refine wl_op (k := 0) (k' := 1) rfl rfl rfl (wo_run rfl rfl (run_add rfl rfl rfl (by first | omega | (simp only [List.length_set, List.length_append, List.length_replicate, List.length_singleton, List.length_cons, List.length_nil]; omega))) ?_)
                refine wl_op (k := 1) (k' := 2) rfl rfl rfl (wo_run rfl rfl (run_move rfl rfl) ?_)
                refine wl_end rfl ?_
                refine nm_lp ?_
                intro ax_ hax_
                refine ⟨_, ?hq6m, ⟨j + 1, _, _, _, _, rfl, hax_.sub ⟨rfl, rfl, rfl, rfl, rfl, rfl, rfl, rfl, rfl, rfl, rfl, rfl, rfl, trivial⟩, S36.pick [2, 3, 4] [_, _, _] (by decide) ⟨rfl, rfl, rfl, trivial⟩, ?hq6f0, ?hq6f1, ?hq6f2, ?hq6f3⟩⟩
                case hq6f0 => omega
                case hq6f1 => (rw [drawV_succ, hdv]; unfold arcV; simp only [hb59, if_true, if_false, Bool.false_eq_true])
                case hq6f2 => first | assumption | (rw [List.length_set]; assumption)
                case hq6f3 => first | assumption | (rw [List.length_set]; assumption)
                case hq6m => omega
            · have hb43 := of_decide_eq_false hb43
              refine ws_exit rfl rfl ?_
              refine nm_sub [(1, _), (2, _), (6, _), (9, _), (10, _), (11, _), (34, _), (35, _), (36, _), (13, _)] ⟨rfl, rfl, rfl, rfl, rfl, rfl, rfl, rfl, rfl, rfl, trivial⟩ ?_
              refine nm_thn ?_
              refine ws_region rfl ?_
              refine wl_op (k := 0) (k' := 1) rfl rfl rfl (wo_run rfl rfl (run_move rfl rfl) ?_)
              refine wl_op (k := 1) (k' := 2) rfl rfl rfl (wo_run rfl rfl (run_move rfl rfl) ?_)
              refine wl_op (k := 2) (k' := 3) rfl rfl rfl (wo_run rfl rfl (run_len rfl rfl rfl rfl rfl rfl Try.underlying24) ?_)
              refine wl_op (k := 3) (k' := 4) rfl rfl rfl (wo_run rfl rfl (run_addW rfl rfl rfl) ?_)
              refine wl_op (k := 4) (k' := 5) rfl rfl rfl (wo_run rfl rfl (run_assign rfl rfl) ?_)
              refine wl_end rfl ?_
              refine nm_blk ?_
              refine nm_sub [(1, _), (2, _), (6, _), (9, _), (10, _), (11, _), (34, _), (35, _), (36, _)] ⟨rfl, rfl, rfl, rfl, rfl, rfl, rfl, rfl, rfl, trivial⟩ ?_
              refine nm_thn ?_
              refine ws_region rfl ?_
              refine wl_op (k := 0) (k' := 1) rfl rfl rfl (wo_run rfl rfl (run_add rfl rfl rfl (by first | omega | (simp only [List.length_set, List.length_append, List.length_replicate, List.length_singleton, List.length_cons, List.length_nil]; omega))) ?_)
              refine wl_op (k := 1) (k' := 2) rfl rfl rfl (wo_run rfl rfl (run_move rfl rfl) ?_)
              refine wl_end rfl ?_
              refine nm_lp ?_
              intro ax_ hax_
              refine ⟨_, ?hq7m, ⟨i + 1, _, _, _, _, _, rfl, hax_.sub ⟨rfl, rfl, rfl, rfl, rfl, rfl, rfl, rfl, rfl, trivial⟩, S30.pick [0, 1, 2] [_, _, _] (by decide) ⟨rfl, rfl, rfl, trivial⟩, ?hq7f0, ?hq7f1, ?hq7f2, ?hq7f3⟩⟩
              case hq7f0 => omega
              case hq7f1 => (rw [drawL_succ, hdr]; dsimp only; obtain rfl : j = (ga l i).length := (by omega); rw [hdv])
              case hq7f2 => assumption
              case hq7f3 => assumption
              case hq7m => omega
        · have hb37 := of_decide_eq_false hb37
          refine ws_exit rfl rfl ?_
          refine nm_sub [(1, _), (2, _), (6, _), (9, _), (10, _)] ⟨rfl, rfl, rfl, rfl, rfl, trivial⟩ ?_
          refine nm_thn ?_
          refine ws_seqN Build_n57 Build_n58 rfl rfl rfl ?_
          refine ws_region rfl ?_
          refine wl_op (k := 0) (k' := 1) rfl rfl rfl (wo_run rfl rfl (run_move rfl rfl) ?_)
          refine wl_op (k := 1) (k' := 2) rfl rfl rfl (wo_run rfl rfl (run_build (l := [_, _]) rfl rfl st27 rfl rfl) ?_)
          refine wl_op (k := 2) (k' := 3) rfl rfl rfl (wo_alloc (l := [_, _]) rfl rfl rfl zr27 rfl S29 ?_)
          intro gb4 w37 S37; clear S29
          refine wl_op (k := 3) (k' := 4) rfl rfl rfl (wo_storeB (i := 0) (us := [_, _]) (l' := [_, _]) (H' := [_, _, _, _]) rfl rfl S37 rfl rfl rfl rfl sz27 rfl rfl rfl rfl ?_)
          intro w38 S38; clear S37
          refine wl_end rfl ?_
          refine nm_sub [(1, _), (6, _), (9, _), (10, _), (17, _)] ⟨rfl, rfl, rfl, rfl, rfl, trivial⟩ ?_
          refine nm_thn ?_
          refine ws_seqN Build_n59 Build_n60 rfl rfl rfl ?_
          refine ws_seqN Build_n61 Build_n62 rfl rfl rfl ?_
          refine ws_region rfl ?_
          refine wl_op (k := 0) (k' := 1) rfl rfl rfl (wo_run rfl rfl (run_move rfl rfl) ?_)
          refine wl_op (k := 1) (k' := 2) rfl rfl rfl (wo_run rfl rfl (run_len rfl rfl rfl rfl rfl rfl Try.underlying23) ?_)
          refine wl_op (k := 2) (k' := 3) rfl rfl rfl (wo_run rfl rfl (run_move rfl rfl) ?_)
          refine wl_end rfl ?_
          refine nm_sub [(6, _), (9, _), (10, _), (17, _), (78, _), (79, _), (80, _)] ⟨rfl, rfl, rfl, rfl, rfl, rfl, rfl, trivial⟩ ?_
          refine nm_thn ?_
          refine ws_blockN Build_n63 4 rfl rfl rfl ?_
          have S39 := S38.nilrow cdCr; clear S38
          refine ws_loopE (fun mx_ ax_ wx_ => ∃ (c : Nat) (acc : List Cr) (vro : Value), mx_ = plus.length - c ∧ Env 102 [(6, .pointer (some ⟨gb1, 0, none⟩)), (9, vrb0), (10, vra0), (17, .pointer (some ⟨gb4, 0, none⟩)), (78, .slice plusA plus.length plusc), (79, .int .i64 (plus.length : Int)), (80, .int .i64 (c : Int))] ax_ ∧ SH wx_ M1 X [Rs.row cdCr vro acc, Rs.box gb4 27 [vro, .int .i64 loops], Rs.row cdI2 vrb0 bl, Rs.row cdI2 vra0 ab, Rs.box gb1 27 [.slice none 0 0, .int .i64 0]] ∧ c ≤ plus.length ∧ acc = crsL plus ⟨bl, ab⟩ c) rfl ?_ ?_
          · intro ax_ hax_
            refine ⟨_, ⟨0, _, _, rfl, hax_.sub ⟨rfl, rfl, rfl, rfl, rfl, rfl, rfl, trivial⟩, S39.pick [0, 1, 2, 3, 4] [_, _, _, _, _] (by decide) ⟨rfl, rfl, rfl, rfl, rfl, trivial⟩, ?hq8f0, ?hq8f1⟩⟩
            case hq8f0 => omega
            case hq8f1 => rfl
          · rintro m3 a4 w39 ⟨c, acc, vro, rfl, he4, S40, hc, hacc⟩
            clear S39
            refine ws_in he4 (c := Build_n64) rfl ?_
            clear he4 a4
            have hal : acc.length = c := by rw [hacc]; exact crsL_len _ _ _
            refine ws_seqN Build_n65 Build_n66 rfl rfl rfl ?_
            refine ws_region rfl ?_
            refine wl_op (k := 0) (k' := 1) rfl rfl rfl (wo_run rfl rfl (run_lss rfl rfl rfl) ?_)
            refine wl_end rfl ?_
            refine nm_thn ?_
            refine ws_seqN Build_n67 Build_n68 rfl rfl rfl ?_
            refine ws_condN Build_n69 Build_n70 rfl rfl rfl rfl (fun hb81 => ?_) (fun hb81 => ?_)
            · have hb81 := of_decide_eq_true hb81
              refine ws_skip rfl ?_
              refine nm_sub [(6, _), (9, _), (10, _), (17, _), (78, _), (79, _), (80, _)] ⟨rfl, rfl, rfl, rfl, rfl, rfl, rfl, trivial⟩ ?_
              refine nm_thn ?_
              refine ws_seqN Build_n71 Build_n72 rfl rfl rfl ?_
              refine ws_blockN Build_n73 5 rfl rfl rfl ?_
              refine ws_seqN Build_n74 Build_n75 rfl rfl rfl ?_
              refine ws_region rfl ?_
              refine wl_op (k := 0) (k' := 1) rfl rfl rfl (wo_run rfl rfl (run_move rfl rfl) ?_)
              refine wl_op (k := 1) (k' := 2) rfl rfl rfl (wo_run rfl rfl (run_indexM (C := cdBool) c rfl rfl rfl sl23 (by first | rfl | omega) hplus (by first | omega | (simp only [List.length_set, List.length_append, List.length_replicate, List.length_singleton, List.length_cons, List.length_nil]; omega))) ?_)
              refine wl_op (k := 2) (k' := 3) rfl rfl rfl (wo_run rfl rfl (run_load1 rfl rfl Try.underlying4 rfl (hplus.cell S40.um (i := c) (by first | omega | (simp only [List.length_set, List.length_append, List.length_replicate, List.length_singleton, List.length_cons, List.length_nil]; omega)) 0 rfl rfl)) ?_)
              refine wl_op (k := 3) (k' := 4) rfl rfl rfl (wo_run rfl rfl (run_assign rfl rfl) ?_)
              refine wl_op (k := 4) (k' := 5) rfl rfl rfl (wo_run rfl rfl (run_assign rfl rfl) ?_)
              refine wl_end rfl ?_
              refine nm_sub [(6, _), (9, _), (10, _), (17, _), (78, _), (79, _), (80, _), (18, _), (19, _)] ⟨rfl, rfl, rfl, rfl, rfl, rfl, rfl, rfl, rfl, trivial⟩ ?_
              refine nm_thn ?_
              refine ws_draw rfl (by kernel_rfl) S40 16 rfl ?_
              clear S40
              refine wa_takeP (i := 0) (d := 85) 15 rfl (by kernel_rfl) (by kernel_rfl) (by kernel_rfl) rfl rfl rfl (fun w40 => run_fieldAddr rfl rfl Try.underlying27 rfl (ce25) (nf25)) ?_
              refine wa_take (i := 1) (d := 86) 14 rfl (by kernel_rfl) (by kernel_rfl) (by kernel_rfl) rfl rfl rfl (fun M18 N17 w41 hle21 S42 => .inl (run_load1 rfl rfl Try.underlying25 rfl (S42.suf.boxc (i := 1) rfl rfl))) ?_
              refine wa_takeP (i := 2) (d := 87) 13 rfl (by kernel_rfl) (by kernel_rfl) (by kernel_rfl) rfl rfl rfl (fun w42 => run_move rfl rfl) ?_
              refine wa_takeP (i := 3) (d := 88) 12 rfl (by kernel_rfl) (by kernel_rfl) (by kernel_rfl) rfl rfl rfl (fun w43 => run_move rfl rfl) ?_
              refine wa_take (i := 4) (d := 89) 11 rfl (by kernel_rfl) (by kernel_rfl) (by kernel_rfl) rfl rfl rfl (fun M21 N20 w44 hle24 S45 => .inl (run_indexR (C := cdI2) (i := 2) c rfl rfl rfl sl68 S45.suf rfl (by first | rfl | omega) (by first | omega | (simp only [List.length_set, List.length_append, List.length_replicate, List.length_singleton, List.length_cons, List.length_nil]; omega)))) ?_
              refine wa_take (i := 5) (d := 90) 10 rfl (by kernel_rfl) (by kernel_rfl) (by kernel_rfl) rfl rfl rfl (fun M22 N21 w45 hle25 S46 => .inl (run_loadN (us := [_, _]) rfl rfl Try.underlying71 rfl sz71 (S46.suf.rowcs (i := 2) (e := c) (j := 0) rfl (by first | omega | (simp only [List.length_set, List.length_append, List.length_replicate, List.length_singleton, List.length_cons, List.length_nil]; omega)) ⟨rfl, rfl, trivial⟩))) ?_
              refine wa_takeP (i := 6) (d := 91) 9 rfl (by kernel_rfl) (by kernel_rfl) (by kernel_rfl) rfl rfl rfl (fun w46 => run_move rfl rfl) ?_
              refine wa_takeP (i := 7) (d := 92) 8 rfl (by kernel_rfl) (by kernel_rfl) (by kernel_rfl) rfl rfl rfl (fun w47 => run_move rfl rfl) ?_
              refine wa_take (i := 8) (d := 93) 7 rfl (by kernel_rfl) (by kernel_rfl) (by kernel_rfl) rfl rfl rfl (fun M25 N24 w48 hle28 S49 => .inl (run_indexR (C := cdI2) (i := 3) c rfl rfl rfl sl68 S49.suf rfl (by first | rfl | omega) (by first | omega | (simp only [List.length_set, List.length_append, List.length_replicate, List.length_singleton, List.length_cons, List.length_nil]; omega)))) ?_
              refine wa_take (i := 9) (d := 94) 6 rfl (by kernel_rfl) (by kernel_rfl) (by kernel_rfl) rfl rfl rfl (fun M26 N25 w49 hle29 S50 => .inl (run_loadN (us := [_, _]) rfl rfl Try.underlying71 rfl sz71 (S50.suf.rowcs (i := 3) (e := c) (j := 0) rfl (by first | omega | (simp only [List.length_set, List.length_append, List.length_replicate, List.length_singleton, List.length_cons, List.length_nil]; omega)) ⟨rfl, rfl, trivial⟩))) ?_
              refine wa_takeP (i := 10) (d := 95) 5 rfl (by kernel_rfl) (by kernel_rfl) (by kernel_rfl) rfl rfl rfl (fun w50 => run_move rfl rfl) ?_
              refine wa_take (i := 11) (d := 96) 4 rfl (by kernel_rfl) (by kernel_rfl) (by kernel_rfl) rfl rfl rfl (fun M28 N27 w51 hle31 S52 => yield_cq rfl rfl rfl rfl rfl cf52 S52 (Make_q ((ga bl c).a) ((ga bl c).b) ((ga ab c).a) ((ga ab c).b) (ga plus c)  S52.lend)) ?_
              refine wa_only (i := 12) 3 rfl (by kernel_rfl) rfl rfl (fun w53 S54 => ?_)
              refine (wo_buildSlice1 (C := cdCr) (l := [_, _, _, _, _]) rfl rfl rfl rfl sl25 rfl rfl rfl rfl S54 ?_)
              intro gb5 w54 S55; clear S54
              refine LeftW.grow [_] (Hp.le_refl _) S55 ?_; clear S55
              change WA _ _ _ _ _ _ _ _ _ _ _ _ [_, _, _, _, _, _]
              refine wa_only (i := 13) 2 rfl (by kernel_rfl) rfl rfl (fun w56 S57 => ?_)
              refine (wo_append1 (C := cdCr) (i := 1) (q := 0) (⟨(makeC ((ga bl c).a) ((ga bl c).b) ((ga ab c).a) ((ga ab c).b) (ga plus c)).a, (makeC ((ga bl c).a) ((ga bl c).b) ((ga ab c).a) ((ga ab c).b) (ga plus c)).b, (makeC ((ga bl c).a) ((ga bl c).b) ((ga ab c).a) ((ga ab c).b) (ga plus c)).c, (makeC ((ga bl c).a) ((ga bl c).b) ((ga ab c).a) ((ga ab c).b) (ga plus c)).d, (makeC ((ga bl c).a) ((ga bl c).b) ((ga ab c).a) ((ga ab c).b) (ga plus c)).plus⟩ : Cr) rfl rfl rfl rfl rfl rfl rfl rfl sl25 S57 rfl rfl rfl (by show (_ + 1) * 40 ≤ _; first | omega | (simp only [List.length_set, List.length_append, List.length_replicate, List.length_singleton, List.length_cons, List.length_nil]; omega)) ?_)
              intro vro1 w57 S58; clear S57
              have S59 := S58.pick [1, 2, 3, 4, 5] [_, _, _, _, _] (by decide) ⟨rfl, rfl, rfl, rfl, rfl, trivial⟩; clear S58
              refine LeftW.turn (by kernel_rfl) S59 ?_; clear S59
              change WA _ _ _ _ _ _ _ _ _ _ _ _ [_, _, _, _, _]
              refine wa_takeP (i := 14) (d := 99) 1 rfl (by kernel_rfl) (by kernel_rfl) (by kernel_rfl) rfl rfl rfl (fun w58 => run_fieldAddr rfl rfl Try.underlying27 rfl (ce25) (nf25)) ?_
              refine wa_only (i := 15) 0 rfl (by kernel_rfl) rfl rfl (fun w60 S62 => ?_)
              refine (wo_storeB (i := 1) (us := [_]) (l' := [_, _]) (H' := [_, _, _, _, _]) rfl rfl S62 rfl rfl rfl (S62.cells1 (i := 0) rfl) sz25 rfl (ones_cons (S62.one (i := 0) rfl) rfl) rfl rfl ?_)
              intro w61 S63; clear S62
              refine LeftW.turn (by kernel_rfl) S63 ?_; clear S63
              change WA _ _ _ _ _ _ _ _ _ _ _ _ [_, _, _, _, _]
              refine wa_end (by kernel_rfl) (fun w62 S64 => ?_)
              refine nm_blk ?_
              refine nm_sub [(6, _), (9, _), (10, _), (17, _), (78, _), (79, _), (80, _)] ⟨rfl, rfl, rfl, rfl, rfl, rfl, rfl, trivial⟩ ?_
              refine nm_thn ?_
              refine ws_region rfl ?_
              refine wl_op (k := 0) (k' := 1) rfl rfl rfl (wo_run rfl rfl (run_add rfl rfl rfl (by first | omega | (simp only [List.length_set, List.length_append, List.length_replicate, List.length_singleton, List.length_cons, List.length_nil]; omega))) ?_)
              refine wl_op (k := 1) (k' := 2) rfl rfl rfl (wo_run rfl rfl (run_move rfl rfl) ?_)
              refine wl_end rfl ?_
              refine nm_lp ?_
              intro ax_ hax_
              refine ⟨_, ?hq9m, ⟨c + 1, _, _, rfl, hax_.sub ⟨rfl, rfl, rfl, rfl, rfl, rfl, rfl, trivial⟩, S64.pick [0, 1, 2, 3, 4] [_, _, _, _, _] (by decide) ⟨rfl, rfl, rfl, rfl, rfl, trivial⟩, ?hq9f0, ?hq9f1⟩⟩
              case hq9f0 => omega
              case hq9f1 => (rw [crsL_succ, ← hacc])
              case hq9m => omega
            · have hb81 := of_decide_eq_false hb81
              refine ws_exit rfl rfl ?_
              refine nm_sub [(6, _), (17, _)] ⟨rfl, rfl, trivial⟩ ?_
              refine nm_thn ?_
              refine ws_seqN Build_n76 Build_n77 rfl rfl rfl ?_
              refine ws_region rfl ?_
              refine wl_op (k := 0) (k' := 1) rfl rfl rfl (wo_run rfl rfl (run_loadN (us := [_, _]) rfl rfl Try.underlying27 rfl sz27 (S40.boxcs (i := 1) rfl ⟨rfl, rfl, trivial⟩)) ?_)
              refine wl_op (k := 1) (k' := 2) rfl rfl rfl (wo_storeB (i := 4) (us := [_, _]) (l' := [_, _]) (H' := [_, _, _, _, _]) rfl rfl S40 rfl rfl rfl rfl sz27 rfl (ones_cons (S40.one (i := 0) rfl) (ones_cons rfl rfl)) rfl rfl ?_)
              intro w63 S65; clear S40
              refine wl_op (k := 2) (k' := 3) rfl rfl rfl (wo_run rfl rfl (run_assign rfl rfl) ?_)
              refine wl_end rfl ?_
              refine nm_sub [(6, _), (7, _)] ⟨rfl, rfl, trivial⟩ ?_
              refine nm_thn ?_
              obtain ⟨M33, hle36, S66, ⟨A1, c1, e1, hr2⟩⟩ := S65.pubrow (i := 0) (H' := [_, _, _, _, _]) rfl rfl (by show _ * 40 ≤ _; first | omega | (simp only [List.length_set, List.length_append, List.length_replicate, List.length_singleton, List.length_cons, List.length_nil]; omega))
              clear S65; subst e1
              replace hl := hl.mono (Hp.un_mono hle36 S66.mx)
              replace hdl := hdl.mono (Hp.un_mono hle36 S66.mx)
              replace hplus := hplus.mono (Hp.un_mono hle36 S66.mx)
              refine ws_ret hC [_, _] rfl rfl ⟨⟨_, rfl, loadVarN (us := [_, _]) Try.underlying27 rfl sz27 (S66.boxcs (i := 4) rfl ⟨rfl, rfl, trivial⟩)⟩, rfl, trivial⟩ ?_
              refine ⟨_, rfl, _, hle1.trans hle36, (S66.pick [] [] (by decide) trivial), ?_⟩
              have hlv := hdl.1
              obtain rfl : i = l.length := by omega
              obtain rfl : c = plus.length := by omega
              have e : buildR l plus loops = (⟨acc, loops⟩, 0) := by unfold buildR; rw [if_neg (by omega), hdr, hacc]
              rw [e]
              exact ⟨_, _, rfl, hr2⟩

end Go.Proofs.Ytlbpgnimpcflaaa
