/- Part 8 of the proof of the law TangleLinks: the walks through its functions and the plain laws that they need. -/
import Derived.Test.YtkgofmloleicgaaTlZ7
import Derived.Lib.SmallJoins
import Derived.Deep.Slices
import Derived.Deep.Fields
import Derived.ChangeSame
set_option linter.unusedSimpArgs false
set_option linter.unusedVariables false
namespace Go.Proofs.Ytkgofmloleicgaa
open Go.ChangeShapes Go.WideShapes Go.ChangeAt Go.RowKit
def prOf (L : List (Sp × Sp)) : Pr := ⟨L.map (·.1), L.map (·.2)⟩
theorem zL_prOf (L : List (Sp × Sp)) : zL (prOf L) = L := by
 unfold zL prOf
 simp only
 induction L with
 | nil => rfl
 | cons p r ih => rw [List.map_cons, List.map_cons, List.zip_cons_cons, ih]
def UqL (L : List (Sp × Sp)) : Prop := ∀ p ∈ L, tieF L p.1 = some p.2 ∧ tieF L p.2 = some p.1
theorem UqL.snoc {L : List (Sp × Sp)} (h : UqL L) {s t : Sp} (hs : tieF L s = none) (ht : tieF L t = none) (hne : s ≠ t) : UqL (L ++ [(s, t)]) := by
 intro p hp
 rw [tieF_snoc]
 rcases List.mem_append.1 hp with hp | hp
 ·exact ⟨sub_tieD _ _ _ _ _ (h p hp).1, sub_tieD _ _ _ _ _ (h p hp).2⟩
 ·rw [List.mem_singleton] at hp
  subst hp
  exact ⟨tieD_l hs, tieD_r ht hne⟩
theorem UqL.uq {L : List (Sp × Sp)} (h : UqL L) : Uq (prOf L) := by
 intro i hi
 rw [zL_prOf]
 have hl : (prOf L).a.length = L.length := by unfold prOf; simp
 have e1 : ga (prOf L).a i = (ga L i).1 := ga_map (fun x : Sp × Sp => x.1) L i (by omega)
 have e2 : ga (prOf L).b i = (ga L i).2 := ga_map (fun x : Sp × Sp => x.2) L i (by omega)
 rw [e1, e2]
 exact h _ (ga_mem (by omega))
theorem Inv.fresh {K : Nat} {A : Nat → Prop} {Pn : Sp → Prop} {D T : Tie} {sp : Sp → Sp} {E : Nat → En} {X : Nat → Sp} (I : Inv K A Pn D T sp E X) {x : Sp} (hx : x.c = (K : Int)) : D x = none ∧ ∀ j, A j → X j ≠ x := by
 have noV : ¬ Vl K x := fun h => by
  rcases h with h | ⟨v, rfl, _⟩
  ·have := h.2.1; omega
  ·simp only [vt] at hx; omega
 refine ⟨?_, fun j hj e => noV (e ▸ (I.xa j hj).2.2)⟩
 cases h : D x with
 | none => rfl
 | some y => exact absurd (I.dr _ _ h) noV
theorem uqL_dcs (ts : List (Bool × Bool)) : UqL (dcs ts).L := by
 refine snocInd (P := fun ts => UqL (dcs ts).L) (fun p hp => by cases hp) (fun ts t ih => ?_) ts
 have J := jn_all (sgT ts) ts fun _ _ => rfl
 have I := J.inv
 rw [dcs_snoc]
 have key : ∀ (j : Nat) (i1 i2 : Int) (a : Bool), j < 3 → cS (dcs ts).n a i1 ≠ cS (dcs ts).n a i2 → UqL (((dcs ts).L ++ [((dcs ts).X j, cS (dcs ts).n a i1)]) ++ [((dcs ts).X 3, cS (dcs ts).n a i2)]) := by
  intro j i1 i2 a hj hne
  have hc : ∀ i, (cS (dcs ts).n a i).c = (ts.length : Int) := fun i => by rw [J.n]; rfl
  obtain ⟨d1, f1⟩ := I.fresh (hc i1)
  obtain ⟨d2, f2⟩ := I.fresh (hc i2)
  refine (ih.snoc (I.xa j (by omega)).2.1 d1 (f1 j (by omega))).snoc ?_ ?_ (f2 3 (by omega))
  ·rw [tieF_snoc]; exact tieD_none (I.xa 3 (by omega)).2.1 (I.xd 3 j (by omega) (by omega) (by omega)) (f1 3 (by omega))
  ·rw [tieF_snoc]; exact tieD_none d2 (fun e => f2 j (by omega) e.symm) (fun e => hne e.symm)
 have ne : ∀ a (i1 i2 : Int), (if a = true then i1 else (i1 + 3) % 4) ≠ (if a = true then i2 else (i2 + 3) % 4) → cS (dcs ts).n a i1 ≠ cS (dcs ts).n a i2 := fun a i1 i2 h e => h (congrArg Sp.a e)
 unfold twD
 split
 ·exact key 2 0 3 t.2 (by omega) (ne _ _ _ (by cases t.2 <;> decide))
 ·exact key 1 0 1 t.2 (by omega) (ne _ _ _ (by cases t.2 <;> decide))
theorem uqL_end (ts : List (Bool × Bool)) : UqL (endL (dcs ts)) := by
 have I := (jn_all (sgT ts) ts fun _ _ => rfl).inv
 unfold endL
 have x : ∀ j, j < 4 → tieF (dcs ts).L ((dcs ts).X j) = none := fun j hj => (I.xa j hj).2.1
 have d : ∀ i j, i < 4 → j < 4 → i ≠ j → (dcs ts).X i ≠ (dcs ts).X j := fun i j hi hj h => I.xd i j hi hj h
 refine ((uqL_dcs ts).snoc (x 0 (by omega)) (x 1 (by omega)) (d 0 1 (by omega) (by omega) (by omega))).snoc ?_ ?_ (d 2 3 (by omega) (by omega) (by omega))
 ·rw [tieF_snoc]; exact tieD_none (x 2 (by omega)) (d 2 0 (by omega) (by omega) (by omega)) (d 2 1 (by omega) (by omega) (by omega))
 ·rw [tieF_snoc]; exact tieD_none (x 3 (by omega)) (d 3 0 (by omega) (by omega) (by omega)) (d 3 1 (by omega) (by omega) (by omega))
theorem wk_pre {s : Dc} {ts : List (Bool × Bool)} (h : s = dcs ts) : (prOf (endL s)).a.length = (prOf (endL s)).b.length ∧ s.n = ts.length ∧ PiOk ts.length (oth (zL (prOf (endL s)))) ∧ (∀ x, Rl ts.length x → Thr (tieF (zL (prOf (endL s)))) x (oth (zL (prOf (endL s))) x)) ∧ Uq (prOf (endL s)) ∧ Vd (tieF (zL (prOf (endL s)))) ∧ dgW (oth (zL (prOf (endL s)))) ts.length (rgc (tieF (zL (prOf (endL s)))) 1 + rgc (tieF (zL (prOf (endL s)))) 3) = dgL ts := by
 subst h
 have F := fin_ts ts
 refine ⟨by unfold prOf; simp, (jn_all (sgT ts) ts fun _ _ => rfl).n, ?_, ?_, (uqL_end ts).uq, ?_, ?_⟩
 ·rw [zL_prOf]; exact fin_pok ts
 ·rw [zL_prOf]; intro x hx; obtain ⟨_, _, _, _, h4, _⟩ := F.pi hx; exact h4
 ·rw [zL_prOf]; exact ⟨F.v1, F.v3⟩
 ·rw [zL_prOf]; unfold dgL; rw [F.lp]
theorem dcs_L (ts : List (Bool × Bool)) : (dcs ts).L.length = 2 * ts.length := by
 refine snocInd (P := fun ts => (dcs ts).L.length = 2 * ts.length) rfl (fun ts t ih => ?_) ts
 rw [dcs_snoc]
 unfold twD
 split <;> (simp [ih]; omega)
noncomputable def LinkOf_n0 : Code := Try.f19.body.getD .skip
noncomputable def LinkOf_n1 : Code := cL LinkOf_n0
noncomputable def LinkOf_n2 : Code := cR LinkOf_n0
noncomputable def LinkOf_n3 : Code := cL LinkOf_n2
noncomputable def LinkOf_n4 : Code := cR LinkOf_n2
noncomputable def LinkOf_n5 : Code := cL LinkOf_n4
noncomputable def LinkOf_n6 : Code := cR LinkOf_n4
noncomputable def LinkOf_n7 : Code := cL LinkOf_n6
noncomputable def LinkOf_n8 : Code := cR LinkOf_n6
noncomputable def LinkOf_n9 : Code := cL LinkOf_n8
noncomputable def LinkOf_n10 : Code := cR LinkOf_n8
noncomputable def LinkOf_n11 : Code := cL LinkOf_n9
noncomputable def LinkOf_n12 : Code := cR LinkOf_n9
noncomputable def LinkOf_n13 : Code := cL LinkOf_n12
noncomputable def LinkOf_n14 : Code := cL LinkOf_n13
noncomputable def LinkOf_n15 : Code := cL LinkOf_n14
noncomputable def LinkOf_n16 : Code := cR LinkOf_n14
noncomputable def LinkOf_n17 : Code := cL LinkOf_n15
noncomputable def LinkOf_n18 : Code := cR LinkOf_n15
noncomputable def LinkOf_n19 : Code := cL LinkOf_n18
noncomputable def LinkOf_n20 : Code := cR LinkOf_n18
noncomputable def LinkOf_n21 : Code := cL LinkOf_n16
noncomputable def LinkOf_n22 : Code := cR LinkOf_n16
noncomputable def LinkOf_n23 : Code := cL LinkOf_n21
noncomputable def LinkOf_n24 : Code := cL LinkOf_n23
noncomputable def LinkOf_n25 : Code := cR LinkOf_n23
noncomputable def LinkOf_n26 : Code := cL LinkOf_n25
noncomputable def LinkOf_n27 : Code := cL LinkOf_n26
noncomputable def LinkOf_n28 : Code := cL LinkOf_n27
noncomputable def LinkOf_n29 : Code := cR LinkOf_n27
noncomputable def LinkOf_n30 : Code := cL LinkOf_n28
noncomputable def LinkOf_n31 : Code := cR LinkOf_n28
noncomputable def LinkOf_n32 : Code := cL LinkOf_n31
noncomputable def LinkOf_n33 : Code := cR LinkOf_n31
noncomputable def LinkOf_n34 : Code := cL LinkOf_n29
noncomputable def LinkOf_n35 : Code := cR LinkOf_n29
noncomputable def LinkOf_n36 : Code := cL LinkOf_n34
noncomputable def LinkOf_n37 : Code := cL LinkOf_n36
noncomputable def LinkOf_n38 : Code := cR LinkOf_n36
noncomputable def LinkOf_n39 : Code := cL LinkOf_n38
noncomputable def LinkOf_n40 : Code := cR LinkOf_n38
noncomputable def LinkOf_n41 : Code := cL LinkOf_n39
noncomputable def LinkOf_n42 : Code := cR LinkOf_n39
noncomputable def LinkOf_n43 : Code := cL LinkOf_n42
noncomputable def LinkOf_n44 : Code := cR LinkOf_n42
noncomputable def LinkOf_n45 : Code := cL LinkOf_n40
noncomputable def LinkOf_n46 : Code := cR LinkOf_n40
noncomputable def LinkOf_n47 : Code := cL LinkOf_n46
noncomputable def LinkOf_n48 : Code := cR LinkOf_n46
noncomputable def LinkOf_n49 : Code := cL LinkOf_n48
noncomputable def LinkOf_n50 : Code := cR LinkOf_n48
noncomputable def LinkOf_n51 : Code := cL LinkOf_n49
noncomputable def LinkOf_n52 : Code := cR LinkOf_n49
noncomputable def LinkOf_n53 : Code := cL LinkOf_n50
noncomputable def LinkOf_n54 : Code := cR LinkOf_n50
noncomputable def LinkOf_n55 : Code := cL LinkOf_n10
noncomputable def LinkOf_n56 : Code := cR LinkOf_n10
noncomputable def LinkOf_n57 : Code := cL LinkOf_n56
noncomputable def LinkOf_n58 : Code := cR LinkOf_n56
set_option maxHeartbeats 4000000 in
set_option maxRecDepth 10000 in
theorem LinkOf_t {w : World} {M : Hp} {X : Fr} (l : List Int) {lA : Option Addr} {lc : Nat} (hl : RdA cdInt (M.un X.h) lA lc l) (hok : listE l = 0) (S : SH w M X []) : Ct Try.prog 19 [.slice lA l.length lc] w M X (DgO (dgL (twP l l.length))) := by
 unfold Ct
 have rmhl : l.length * 8 ≤ 140737488355328 := hl.room
 obtain ⟨hok1, hok2, hok3⟩ := listE_ok hok
 refine calls_in (b := LinkOf_n0) Try.func19 rfl Try.ntmps19 rfl (fun C hC => ?_)
 refine ws_sub [(0, _)] ⟨rfl, trivial⟩ ?_
 refine ws_seqN LinkOf_n1 LinkOf_n2 rfl rfl rfl ?_
 refine ws_region rfl ?_
 refine wlo 0 1 rfl rfl rfl (wo_alloc (l := [_, _]) rfl rfl rfl zr41 rfl S ?_)
 intro gb1 w1 S1; clear S
 refine wl_end rfl ?_
 refine nm_thn ?_
 refine ws_seqN LinkOf_n3 LinkOf_n4 rfl rfl rfl ?_
 refine ws_region rfl ?_
 refine wlo 0 1 rfl rfl rfl (wo_alloc (l := [_, _]) rfl rfl rfl zr59 rfl S1 ?_)
 intro gb2 w2 S2; clear S1
 refine wl_end rfl ?_
 refine nm_thn ?_
 refine ws_seqN LinkOf_n5 LinkOf_n6 rfl rfl rfl ?_
 refine ws_region rfl ?_
 refine wlo 0 1 rfl rfl rfl (wo_run rfl rfl (run_build (l := [_, _]) rfl rfl st61 rfl rfl) ?_)
 refine wlo 1 2 rfl rfl rfl (wo_run rfl rfl (run_build (l := [_, _]) rfl rfl st61 rfl rfl) ?_)
 refine wlo 2 3 rfl rfl rfl (wo_run rfl rfl (run_build (l := [_, _]) rfl rfl st61 rfl rfl) ?_)
 refine wlo 3 4 rfl rfl rfl (wo_run rfl rfl (run_build (l := [_, _]) rfl rfl st61 rfl rfl) ?_)
 refine wlo 4 5 rfl rfl rfl (wo_alloc (l := [_, _]) rfl rfl rfl zr61 rfl S2 ?_)
 intro gb3 w3 S3; clear S2
 refine wlo 5 6 rfl rfl rfl (wo_alloc (l := [_, _]) rfl rfl rfl zr61 rfl S3 ?_)
 intro gb4 w4 S4; clear S3
 refine wlo 6 7 rfl rfl rfl (wo_alloc (l := [_, _]) rfl rfl rfl zr61 rfl S4 ?_)
 intro gb5 w5 S5; clear S4
 refine wlo 7 8 rfl rfl rfl (wo_alloc (l := [_, _]) rfl rfl rfl zr61 rfl S5 ?_)
 intro gb6 w6 S6; clear S5
 refine wlo 8 9 rfl rfl rfl (wo_storeB (i := 3) (us := [_, _]) (l' := [_, _]) (H' := [_, _, _, _, _, _]) rfl rfl S6 rfl rfl rfl rfl sz61 rfl rfl rfl rfl ?_)
 intro w7 S7; clear S6
 refine wlo 9 10 rfl rfl rfl (wo_storeB (i := 2) (us := [_, _]) (l' := [_, _]) (H' := [_, _, _, _, _, _]) rfl rfl S7 rfl rfl rfl rfl sz61 rfl rfl rfl rfl ?_)
 intro w8 S8; clear S7
 refine wlo 10 11 rfl rfl rfl (wo_storeB (i := 1) (us := [_, _]) (l' := [_, _]) (H' := [_, _, _, _, _, _]) rfl rfl S8 rfl rfl rfl rfl sz61 rfl rfl rfl rfl ?_)
 intro w9 S9; clear S8
 refine wlo 11 12 rfl rfl rfl (wo_storeB (i := 0) (us := [_, _]) (l' := [_, _]) (H' := [_, _, _, _, _, _]) rfl rfl S9 rfl rfl rfl rfl sz61 rfl rfl rfl rfl ?_)
 intro w10 S10; clear S9
 refine wl_end rfl ?_
 refine nm_sub [(0, _), (2, _), (3, _), (4, _), (5, _), (6, _), (7, _)] ⟨rfl, rfl, rfl, rfl, rfl, rfl, rfl, trivial⟩ ?_
 refine nm_thn ?_
 refine ws_seqN LinkOf_n7 LinkOf_n8 rfl rfl rfl ?_
 refine ws_region rfl ?_
 refine wla 0 1 rfl rfl rfl rfl rfl rfl rfl ?_
 refine wl_end rfl ?_
 refine nm_thn ?_
 refine ws_seqN LinkOf_n9 LinkOf_n10 rfl rfl rfl ?_
 refine ws_seqN LinkOf_n11 LinkOf_n12 rfl rfl rfl ?_
 refine ws_region rfl ?_
 refine wla 0 1 rfl rfl rfl rfl rfl rfl rfl ?_
 refine wl_end rfl ?_
 refine nm_thn ?_
 refine ws_blockN LinkOf_n13 0 rfl rfl rfl ?_
 have S11 := S10.nilrow cdSp; clear S10
 have S12 := S11.nilrow cdSp; clear S11
 refine ws_loopE (fun mx_ ax_ wx_ => ∃ (i : Nat) (s8 : Dc) (vra8 : Value) (vrb8 : Value), mx_ = l.length - 1 * i ∧ Env 103 [(0, .slice lA l.length lc), (2, .pointer (some ⟨gb1, 0, none⟩)), (3, .pointer (some ⟨gb2, 0, none⟩)), (4, .pointer (some ⟨gb3, 0, none⟩)), (5, .pointer (some ⟨gb4, 0, none⟩)), (6, .pointer (some ⟨gb5, 0, none⟩)), (7, .pointer (some ⟨gb6, 0, none⟩)), (8, .int .i64 (s8.n : Int)), (9, .int .i64 (i : Int))] ax_ ∧ SH wx_ M X [Rs.row cdSp vrb8 ((prOf s8.L).b), Rs.row cdSp vra8 ((prOf s8.L).a), Rs.box gb6 61 [.int .i64 ((s8.X 3).c), .int .i64 ((s8.X 3).a)], Rs.box gb5 61 [.int .i64 ((s8.X 2).c), .int .i64 ((s8.X 2).a)], Rs.box gb4 61 [.int .i64 ((s8.X 1).c), .int .i64 ((s8.X 1).a)], Rs.box gb3 61 [.int .i64 (-1), .int .i64 0], Rs.box gb2 59 [vra8, vrb8], Rs.box gb1 41 [.slice none 0 0, .int .i64 0]] ∧ i ≤ l.length ∧ s8 = dcs (twP l i)) rfl ?_ ?_
 ·intro ax_ hax_
  refine ⟨_, ⟨0, dc0, _, _, rfl, hax_.sub ⟨rfl, rfl, rfl, rfl, rfl, rfl, rfl, rfl, rfl, trivial⟩, S12.pick [0, 1, 2, 3, 4, 5, 6, 7] [_, _, _, _, _, _, _, _] (by decide) ⟨rfl, rfl, rfl, rfl, rfl, rfl, rfl, rfl, trivial⟩, ?hq1f0, ?hq1f1⟩⟩
  case hq1f0 => exact Nat.zero_le _
  case hq1f1 => rfl
 ·rintro m1 a1 w11 ⟨i, s8, vra8, vrb8, rfl, he1, S13, hi, hs8⟩
  clear S12
  refine ws_in he1 (c := LinkOf_n14) rfl ?_
  clear he1 a1
  have hab := fun h => any_false_ga hok1 (i := i) h
  have hs8n : s8.n = (twP l i).length := by rw [hs8]; exact (jn_all (sgT _) _ fun _ _ => rfl).n
  have htl := twP_len l i
  have hmo := fun h => sumA_mono l i l.length h
  refine ws_seqN LinkOf_n15 LinkOf_n16 rfl rfl rfl ?_
  refine ws_seqN LinkOf_n17 LinkOf_n18 rfl rfl rfl ?_
  refine ws_region rfl ?_
  refine wlm 0 1 rfl rfl rfl rfl rfl rfl rfl ?_
  refine wlm 1 2 rfl rfl rfl rfl rfl rfl rfl ?_
  refine wlo 2 3 rfl rfl rfl (wo_run rfl rfl (run_len rfl rfl rfl rfl rfl rfl Try.underlying27) ?_)
  refine wlo 3 4 rfl rfl rfl (wo_run rfl rfl (run_lss rfl rfl rfl) ?_)
  refine wl_end rfl ?_
  refine nm_sub [(0, _), (2, _), (3, _), (4, _), (5, _), (6, _), (7, _), (8, _), (9, _), (19, _)] ⟨rfl, rfl, rfl, rfl, rfl, rfl, rfl, rfl, rfl, rfl, trivial⟩ ?_
  refine nm_thn ?_
  refine ws_condN LinkOf_n19 LinkOf_n20 rfl rfl rfl rfl (fun hb19 => ?_) (fun hb19 => ?_)
  ·replace hb19 := of_decide_eq_true hb19
   refine ws_skip rfl ?_
   refine nm_sub [(0, _), (2, _), (3, _), (4, _), (5, _), (6, _), (7, _), (8, _), (9, _)] ⟨rfl, rfl, rfl, rfl, rfl, rfl, rfl, rfl, rfl, trivial⟩ ?_
   refine nm_thn ?_
   refine ws_seqN LinkOf_n21 LinkOf_n22 rfl rfl rfl ?_
   refine ws_blockN LinkOf_n23 1 rfl rfl rfl ?_
   refine ws_seqN LinkOf_n24 LinkOf_n25 rfl rfl rfl ?_
   refine ws_region rfl ?_
   refine wla 0 1 rfl rfl rfl rfl rfl rfl rfl ?_
   refine wl_end rfl ?_
   refine nm_thn ?_
   refine ws_blockN LinkOf_n26 2 rfl rfl rfl ?_
   refine ws_loopE (fun mx_ ax_ wx_ => ∃ (k : Nat) (s9 : Dc) (vra9 : Value) (vrb9 : Value), mx_ = (ga l i).natAbs - 1 * k ∧ Env 103 [(0, .slice lA l.length lc), (2, .pointer (some ⟨gb1, 0, none⟩)), (3, .pointer (some ⟨gb2, 0, none⟩)), (4, .pointer (some ⟨gb3, 0, none⟩)), (5, .pointer (some ⟨gb4, 0, none⟩)), (6, .pointer (some ⟨gb5, 0, none⟩)), (7, .pointer (some ⟨gb6, 0, none⟩)), (8, .int .i64 (s9.n : Int)), (9, .int .i64 (i : Int)), (10, .int .i64 (k : Int))] ax_ ∧ SH wx_ M X [Rs.row cdSp vrb9 ((prOf s9.L).b), Rs.row cdSp vra9 ((prOf s9.L).a), Rs.box gb6 61 [.int .i64 ((s9.X 3).c), .int .i64 ((s9.X 3).a)], Rs.box gb5 61 [.int .i64 ((s9.X 2).c), .int .i64 ((s9.X 2).a)], Rs.box gb4 61 [.int .i64 ((s9.X 1).c), .int .i64 ((s9.X 1).a)], Rs.box gb3 61 [.int .i64 (-1), .int .i64 0], Rs.box gb2 59 [vra9, vrb9], Rs.box gb1 41 [.slice none 0 0, .int .i64 0]] ∧ k ≤ (ga l i).natAbs ∧ s9 = dcs (twQ l i k)) rfl ?_ ?_
   ·intro ax_ hax_
    refine ⟨_, ⟨0, s8, _, _, rfl, hax_.sub ⟨rfl, rfl, rfl, rfl, rfl, rfl, rfl, rfl, rfl, rfl, trivial⟩, S13.pick [0, 1, 2, 3, 4, 5, 6, 7] [_, _, _, _, _, _, _, _] (by decide) ⟨rfl, rfl, rfl, rfl, rfl, rfl, rfl, rfl, trivial⟩, ?hq2f0, ?hq2f1⟩⟩
    case hq2f0 => exact Nat.zero_le _
    case hq2f1 => (rw [hs8]; show dcs (twP l i) = dcs (twP l i ++ []); rw [List.append_nil])
   ·rintro m2 a2 w12 ⟨k, s9, vra9, vrb9, rfl, he2, S14, hk, hs9⟩
    clear S13
    refine ws_in he2 (c := LinkOf_n27) rfl ?_
    clear he2 a2
    have hs9n : s9.n = (twQ l i k).length := by rw [hs9]; exact (jn_all (sgT _) _ fun _ _ => rfl).n
    have hll9 : s9.L.length = 2 * (twQ l i k).length := by rw [hs9]; exact dcs_L _
    have hq9 := fun h h2 => twQ_len (l := l) (i := i) (k := k) h h2 hok2
    have hla : (prOf s9.L).a.length = s9.L.length := by unfold prOf; simp
    have hlb : (prOf s9.L).b.length = s9.L.length := by unfold prOf; simp
    refine ws_seqN LinkOf_n28 LinkOf_n29 rfl rfl rfl ?_
    refine ws_seqN LinkOf_n30 LinkOf_n31 rfl rfl rfl ?_
    refine ws_region rfl ?_
    refine wlm 0 1 rfl rfl rfl rfl rfl rfl rfl ?_
    refine wlm 1 2 rfl rfl rfl rfl rfl rfl rfl ?_
    refine wlm 2 3 rfl rfl rfl rfl rfl rfl rfl ?_
    refine wlo 3 4 rfl rfl rfl (wo_run rfl rfl (run_indexM (C := cdInt) i rfl rfl rfl sl27 (by first | rfl | omega) hl (by first | omega | (simp only [lens]; omega))) ?_)
    refine wlo 4 5 rfl rfl rfl (wo_run rfl rfl (run_load1 rfl rfl Try.underlying3 rfl (hl.cell S14.um (i := i) (by first | omega | (simp only [lens]; omega)) 0 rfl rfl)) ?_)
    refine wlo 5 6 rfl rfl rfl (wo_cq rfl rfl rfl rfl rfl rfl rfl cf25 S14 (abs_q (ga l i) (by (have := hab (by omega); omega)) S14.lend) ?_)
    rintro _ w13 S15 rfl; clear S14
    refine wlo 6 7 rfl rfl rfl (wo_run rfl rfl (run_lss rfl rfl rfl) ?_)
    refine wl_end rfl ?_
    refine nm_sub [(0, _), (2, _), (3, _), (4, _), (5, _), (6, _), (7, _), (8, _), (9, _), (10, _), (28, _)] ⟨rfl, rfl, rfl, rfl, rfl, rfl, rfl, rfl, rfl, rfl, rfl, trivial⟩ ?_
    refine nm_thn ?_
    refine ws_condN LinkOf_n32 LinkOf_n33 rfl rfl rfl rfl (fun hb28 => ?_) (fun hb28 => ?_)
    ·replace hb28 := of_decide_eq_true hb28
     refine ws_skip rfl ?_
     refine nm_sub [(0, _), (2, _), (3, _), (4, _), (5, _), (6, _), (7, _), (8, _), (9, _), (10, _)] ⟨rfl, rfl, rfl, rfl, rfl, rfl, rfl, rfl, rfl, rfl, trivial⟩ ?_
     refine nm_thn ?_
     refine ws_seqN LinkOf_n34 LinkOf_n35 rfl rfl rfl ?_
     refine ws_blockN LinkOf_n36 3 rfl rfl rfl ?_
     refine ws_seqN LinkOf_n37 LinkOf_n38 rfl rfl rfl ?_
     refine ws_region rfl ?_
     refine wlm 0 1 rfl rfl rfl rfl rfl rfl rfl ?_
     refine wlo 1 2 rfl rfl rfl (wo_run rfl rfl (run_build (l := [_, _]) rfl rfl st61 rfl rfl) ?_)
     refine wlm 2 3 rfl rfl rfl rfl rfl rfl rfl ?_
     refine wlo 3 4 rfl rfl rfl (wo_run rfl rfl (run_build (l := [_, _]) rfl rfl st61 rfl rfl) ?_)
     refine wlm 4 5 rfl rfl rfl rfl rfl rfl rfl ?_
     refine wlo 5 6 rfl rfl rfl (wo_run rfl rfl (run_build (l := [_, _]) rfl rfl st61 rfl rfl) ?_)
     refine wlm 6 7 rfl rfl rfl rfl rfl rfl rfl ?_
     refine wlo 7 8 rfl rfl rfl (wo_run rfl rfl (run_build (l := [_, _]) rfl rfl st61 rfl rfl) ?_)
     refine wlo 8 9 rfl rfl rfl (wo_buildSliceN (C := cdSp) (l := [_, _, _, _, _, _, _, _]) (pl := [(0, 2), (2, 2), (4, 2), (6, 2)]) rfl rfl rfl rfl sl57 rfl rfl rfl rfl rfl S15 ?_)
     intro gb7 w15 S17; clear S15
     refine wla 9 10 rfl rfl rfl rfl rfl rfl rfl ?_
     refine wl_end rfl ?_
     refine nm_sub [(0, _), (2, _), (3, _), (4, _), (5, _), (6, _), (7, _), (8, _), (9, _), (10, _), (11, _)] ⟨rfl, rfl, rfl, rfl, rfl, rfl, rfl, rfl, rfl, rfl, rfl, trivial⟩ ?_
     refine nm_thn ?_
     refine ws_seqN LinkOf_n39 LinkOf_n40 rfl rfl rfl ?_
     refine ws_seqN LinkOf_n41 LinkOf_n42 rfl rfl rfl ?_
     refine ws_region rfl ?_
     refine wlm 0 1 rfl rfl rfl rfl rfl rfl rfl ?_
     refine wlm 1 2 rfl rfl rfl rfl rfl rfl rfl ?_
     refine wlo 2 3 rfl rfl rfl (wo_run rfl rfl (run_indexM (C := cdInt) i rfl rfl rfl sl27 (by first | rfl | omega) hl (by first | omega | (simp only [lens]; omega))) ?_)
     refine wlo 3 4 rfl rfl rfl (wo_run rfl rfl (run_load1 rfl rfl Try.underlying3 rfl (hl.cell S17.um (i := i) (by first | omega | (simp only [lens]; omega)) 0 rfl rfl)) ?_)
     refine wlo 4 5 rfl rfl rfl (wo_run rfl rfl (run_lss rfl rfl rfl) ?_)
     refine wl_end rfl ?_
     refine nm_sub [(0, _), (2, _), (3, _), (4, _), (5, _), (6, _), (7, _), (8, _), (9, _), (10, _), (11, _), (44, _)] ⟨rfl, rfl, rfl, rfl, rfl, rfl, rfl, rfl, rfl, rfl, rfl, rfl, trivial⟩ ?_
     refine nm_thn ?_
     refine ws_condN LinkOf_n43 LinkOf_n44 rfl rfl rfl rfl (fun hb44 => ?_) (fun hb44 => ?_)
     ·replace hb44 := of_decide_eq_true hb44
      have hsg : decide (0 < ga l i) = false := by simp; omega
      refine ws_region rfl ?_
      refine wlm 0 1 rfl rfl rfl rfl rfl rfl rfl ?_
      refine wlo 1 2 rfl rfl rfl (wo_run rfl rfl (run_build (l := [_, _]) rfl rfl st61 rfl rfl) ?_)
      refine wlm 2 3 rfl rfl rfl rfl rfl rfl rfl ?_
      refine wlo 3 4 rfl rfl rfl (wo_run rfl rfl (run_build (l := [_, _]) rfl rfl st61 rfl rfl) ?_)
      refine wlm 4 5 rfl rfl rfl rfl rfl rfl rfl ?_
      refine wlo 5 6 rfl rfl rfl (wo_run rfl rfl (run_build (l := [_, _]) rfl rfl st61 rfl rfl) ?_)
      refine wlm 6 7 rfl rfl rfl rfl rfl rfl rfl ?_
      refine wlo 7 8 rfl rfl rfl (wo_run rfl rfl (run_build (l := [_, _]) rfl rfl st61 rfl rfl) ?_)
      refine wlo 8 9 rfl rfl rfl (wo_buildSliceN (C := cdSp) (l := [_, _, _, _, _, _, _, _]) (pl := [(0, 2), (2, 2), (4, 2), (6, 2)]) rfl rfl rfl rfl sl57 rfl rfl rfl rfl rfl S17 ?_)
      intro gb8 w17 S19; clear S17
      refine wla 9 10 rfl rfl rfl rfl rfl rfl rfl ?_
      refine wl_end rfl ?_
      refine nm_sub [(0, _), (2, _), (3, _), (4, _), (5, _), (6, _), (7, _), (8, _), (9, _), (10, _), (11, _)] ⟨rfl, rfl, rfl, rfl, rfl, rfl, rfl, rfl, rfl, rfl, rfl, trivial⟩ ?_
      refine nm_thn ?_
      refine ws_seqN LinkOf_n45 LinkOf_n46 rfl rfl rfl ?_
      have S20 := S19.boxrow (C := cdSp) [(⟨(s9.n : Int), 3⟩ : Sp), (⟨(s9.n : Int), 0⟩ : Sp), (⟨(s9.n : Int), 1⟩ : Sp), (⟨(s9.n : Int), 2⟩ : Sp)] (i := 0) (H' := [_, _, _, _, _, _, _, _, _, _]) rfl rfl (by simp) rfl; clear S19
      obtain ⟨vrc1, erc1⟩ : ∃ v, v = Value.slice (some ⟨gb8, 0, none⟩) ([(⟨(s9.n : Int), 3⟩ : Sp), (⟨(s9.n : Int), 0⟩ : Sp), (⟨(s9.n : Int), 1⟩ : Sp), (⟨(s9.n : Int), 2⟩ : Sp)]).length ([(⟨(s9.n : Int), 3⟩ : Sp), (⟨(s9.n : Int), 0⟩ : Sp), (⟨(s9.n : Int), 1⟩ : Sp), (⟨(s9.n : Int), 2⟩ : Sp)]).length := ⟨_, rfl⟩
      rw [← erc1] at S20
      refine ws_eq 11 (vrc1) rfl erc1.symm ?_
      refine ws_region rfl ?_
      refine wlm 0 1 rfl rfl rfl rfl rfl rfl rfl ?_
      refine wlo 1 2 rfl rfl rfl (wo_run rfl rfl (run_add rfl rfl rfl (by first | omega | (simp only [lens]; omega))) ?_)
      refine wla 2 3 rfl rfl rfl rfl rfl rfl rfl ?_
      refine wl_end rfl ?_
      refine nm_sub [(0, _), (2, _), (3, _), (4, _), (5, _), (6, _), (7, _), (8, _), (9, _), (10, _), (11, _)] ⟨rfl, rfl, rfl, rfl, rfl, rfl, rfl, rfl, rfl, rfl, rfl, trivial⟩ ?_
      refine nm_thn ?_
      refine ws_seqN LinkOf_n47 LinkOf_n48 rfl rfl rfl ?_
      refine ws_region rfl ?_
      refine wlm 0 1 rfl rfl rfl rfl rfl rfl rfl ?_
      refine wlo 1 2 rfl rfl rfl (wo_run rfl rfl (run_rem rfl rfl rfl (by first | omega | (simp only [lens]; omega))) ?_)
      refine wlo 2 3 rfl rfl rfl (wo_run rfl rfl (run_eql rfl rfl rfl) ?_)
      refine wl_end rfl ?_
      refine nm_sub [(0, _), (2, _), (3, _), (4, _), (5, _), (6, _), (7, _), (8, _), (9, _), (10, _), (11, _), (58, _)] ⟨rfl, rfl, rfl, rfl, rfl, rfl, rfl, rfl, rfl, rfl, rfl, rfl, trivial⟩ ?_
      refine nm_thn ?_
      refine ws_condN LinkOf_n49 LinkOf_n50 rfl rfl rfl rfl (fun hb58 => ?_) (fun hb58 => ?_)
      ·replace hb58 := of_decide_eq_true hb58
       have htw : twX l i = (false, false) := by unfold twX; rw [show decide ((i : Int) % 2 = 1) = false by simp; omega, hsg]
       refine ws_seqN LinkOf_n51 LinkOf_n52 rfl rfl rfl ?_
       have S21 := S20.pick [3, 2, 0, 1, 4, 5, 6, 7, 8, 9] [_, _, _, _, _, _, _, _, _, _] (by decide) ⟨rfl, rfl, rfl, rfl, rfl, rfl, rfl, rfl, rfl, rfl, trivial⟩; clear S20
       refine ws_drawN [_, _] [_, _, _, _, _, _, _, _] rfl (by kernel_rfl) S21 12 rfl ?_
       clear S21
       change WA _ _ _ _ _ _ _ _ _ _ _ _ [_, _, _, _, _, _, _, _, _, _]
       refine wa_take (i := 0) (d := 59) 11 rfl (by kernel_rfl) (by kernel_rfl) (by kernel_rfl) rfl rfl rfl (fun M1 N1 w18 hle3 S22 => .inl (run_loadN (us := [_, _]) rfl rfl Try.underlying59 rfl sz59 (S22.suf.boxcs (i := 6) rfl ⟨rfl, rfl, trivial⟩))) ?_
       refine wa_take (i := 1) (d := 60) 10 rfl (by kernel_rfl) (by kernel_rfl) (by kernel_rfl) rfl rfl rfl (fun M2 N2 w19 hle4 S23 => .inl (run_loadN (us := [_, _]) rfl rfl Try.underlying61 rfl sz61 (S23.suf.boxcs (i := 4) rfl ⟨rfl, rfl, trivial⟩))) ?_
       refine wa_takeP (i := 2) (d := 61) 9 rfl (by kernel_rfl) (by kernel_rfl) (by kernel_rfl) rfl rfl rfl (fun w20 => run_move rfl rfl) ?_
       refine wa_take (i := 3) (d := 62) 8 rfl (by kernel_rfl) (by kernel_rfl) (by kernel_rfl) rfl rfl rfl (fun M4 N4 w21 hle6 S25 => .inl (run_indexR (C := cdSp) (i := 0) 0 rfl rfl rfl sl57 S25.suf rfl (by first | rfl | omega) (by first | omega | (simp only [lens]; omega)))) ?_
       refine wa_take (i := 4) (d := 63) 7 rfl (by kernel_rfl) (by kernel_rfl) (by kernel_rfl) rfl rfl rfl (fun M5 N5 w22 hle7 S26 => .inl (run_loadN (us := [_, _]) rfl rfl Try.underlying61 rfl sz61 (S26.suf.rowcs (i := 0) (e := 0) (j := 0) rfl (by first | omega | (simp only [lens]; omega)) ⟨rfl, rfl, trivial⟩))) ?_
       refine wa_take (i := 6) (d := 65) 6 rfl (by kernel_rfl) (by kernel_rfl) (by kernel_rfl) rfl rfl rfl (fun M7 N7 w24 hle9 S28 => .inl (run_loadN (us := [_, _]) rfl rfl Try.underlying61 rfl sz61 (S28.suf.boxcs (i := 2) rfl ⟨rfl, rfl, trivial⟩))) ?_
       refine wa_takeP (i := 7) (d := 66) 5 rfl (by kernel_rfl) (by kernel_rfl) (by kernel_rfl) rfl rfl rfl (fun w26 => run_move rfl rfl) ?_
       refine wa_take (i := 8) (d := 67) 4 rfl (by kernel_rfl) (by kernel_rfl) (by kernel_rfl) rfl rfl rfl (fun M11 N11 w28 hle13 S32 => .inl (run_indexR (C := cdSp) (i := 0) 1 rfl rfl rfl sl57 S32.suf rfl (by first | rfl | omega) (by first | omega | (simp only [lens]; omega)))) ?_
       refine wa_take (i := 9) (d := 68) 3 rfl (by kernel_rfl) (by kernel_rfl) (by kernel_rfl) rfl rfl rfl (fun M13 N13 w30 hle15 S34 => .inl (run_loadN (us := [_, _]) rfl rfl Try.underlying61 rfl sz61 (S34.suf.rowcs (i := 0) (e := 1) (j := 0) rfl (by first | omega | (simp only [lens]; omega)) ⟨rfl, rfl, trivial⟩))) ?_
       refine wa_only (i := 5) 2 rfl (by kernel_rfl) rfl rfl (fun w32 S36 => ?_)
       have S37 := S36.pick [0, 1, 2, 3, 4, 5, 6, 7, 8, 9] [_, _, _, _, _, _, _, _, _, _] (by decide) ⟨rfl, rfl, rfl, rfl, rfl, rfl, rfl, rfl, rfl, rfl, trivial⟩; clear S36
       have S38 : SH _ _ _ (Rs.bun [_, _] :: [_, _, _, _, _, _, _, _]) := SH.bunC (A := [_, _]) (B := [_, _, _, _, _, _, _, _]) S37; clear S37
       have S39 : SH _ _ _ [_, _, _, _, _, _, _, _, _] := S38.less (i := 0) rfl
       have hcall1 := Tied_b ((prOf s9.L).a) ((prOf s9.L).b) (s9.X 1) (ga ([(⟨(s9.n : Int), 3⟩ : Sp), (⟨(s9.n : Int), 0⟩ : Sp), (⟨(s9.n : Int), 1⟩ : Sp), (⟨(s9.n : Int), 2⟩ : Sp)]) 0) (by omega) (by omega) (S38.lend1 (i := 0) rfl); clear S39
       refine (wo_c1 (i := 0) rfl rfl rfl rfl rfl rfl rfl cf30 S38 rfl hcall1 ?_)
       intro vw33 w33 M15 rw33 hle17 S40 hR1; clear S38
       obtain ⟨huhMX1, hMX1, hR2⟩ := hR1
       rw [hMX1] at S40
       clear hMX1
       obtain ⟨vra1, vrb1, rfl, rfl⟩ := hR2
       replace S40 : SH _ _ _ (Rs.bun [_, _] :: [_, _, _, _, _, _, _, _]) := S40
       have S41 : SH _ _ _ [_, _, _, _, _, _, _, _, _, _] := SH.unbunC (A := [_, _]) (B := [_, _, _, _, _, _, _, _]) S40; clear S40
       refine LeftW.grow [_, _] (Hp.le_refl _) S41 ?_; clear S41
       change WA _ _ _ _ _ _ _ _ _ _ _ _ [_, _, _, _, _, _, _, _, _, _]
       refine wa_only (i := 10) 1 rfl (by kernel_rfl) rfl rfl (fun w35 S43 => ?_)
       have S44 := S43.pick [0, 1, 2, 3, 4, 5, 6, 7, 8, 9] [_, _, _, _, _, _, _, _, _, _] (by decide) ⟨rfl, rfl, rfl, rfl, rfl, rfl, rfl, rfl, rfl, rfl, trivial⟩; clear S43
       have S45 : SH _ _ _ (Rs.bun [_, _] :: [_, _, _, _, _, _, _, _]) := SH.bunC (A := [_, _]) (B := [_, _, _, _, _, _, _, _]) S44; clear S44
       have S46 : SH _ _ _ [_, _, _, _, _, _, _, _, _] := S45.less (i := 0) rfl
       have hcall2 := Tied_b (((prOf s9.L).a) ++ [(s9.X 1)]) (((prOf s9.L).b) ++ [(ga ([(⟨(s9.n : Int), 3⟩ : Sp), (⟨(s9.n : Int), 0⟩ : Sp), (⟨(s9.n : Int), 1⟩ : Sp), (⟨(s9.n : Int), 2⟩ : Sp)]) 0)]) (s9.X 3) (ga ([(⟨(s9.n : Int), 3⟩ : Sp), (⟨(s9.n : Int), 0⟩ : Sp), (⟨(s9.n : Int), 1⟩ : Sp), (⟨(s9.n : Int), 2⟩ : Sp)]) 1) (by (simp only [List.length_append, List.length_singleton]; omega)) (by (simp only [List.length_append, List.length_singleton]; omega)) (S45.lend1 (i := 0) rfl); clear S46
       refine (wo_c1 (i := 0) rfl rfl rfl rfl rfl rfl rfl cf30 S45 rfl hcall2 ?_)
       intro vw36 w36 M17 rw36 hle19 S47 hR3; clear S45
       obtain ⟨huhMX2, hMX2, hR4⟩ := hR3
       rw [hMX2] at S47
       clear hMX2
       obtain ⟨vra2, vrb2, rfl, rfl⟩ := hR4
       replace S47 : SH _ _ _ (Rs.bun [_, _] :: [_, _, _, _, _, _, _, _]) := S47
       have S48 : SH _ _ _ [_, _, _, _, _, _, _, _, _, _] := SH.unbunC (A := [_, _]) (B := [_, _, _, _, _, _, _, _]) S47; clear S47
       refine LeftW.grow [_, _] (Hp.le_refl _) S48 ?_; clear S48
       change WA _ _ _ _ _ _ _ _ _ _ _ _ [_, _, _, _, _, _, _, _, _, _]
       refine wa_only (i := 11) 0 rfl (by kernel_rfl) rfl rfl (fun w38 S50 => ?_)
       refine (wo_storeB (i := 8) (us := [_, _]) (l' := [_, _]) (H' := [_, _, _, _, _, _, _, _, _, _]) rfl rfl S50 rfl rfl rfl rfl sz59 rfl (ones_cons (S50.one (i := 0) rfl) (ones_cons (S50.one (i := 1) rfl) rfl)) rfl rfl ?_)
       intro w39 S51; clear S50
       refine LeftW.turn (by kernel_rfl) S51 ?_; clear S51
       change WA _ _ _ _ _ _ _ _ _ _ _ _ [_, _, _, _, _, _, _, _, _, _]
       refine wa_end (by kernel_rfl) (fun w40 S52 => ?_)
       refine nm_sub [(0, _), (2, _), (3, _), (4, _), (5, _), (6, _), (7, _), (8, _), (9, _), (10, _), (11, _)] ⟨rfl, rfl, rfl, rfl, rfl, rfl, rfl, rfl, rfl, rfl, rfl, trivial⟩ ?_
       refine nm_thn ?_
       have S53 := S52.pick [6, 4, 0, 1, 2, 3, 5, 7, 8, 9] [_, _, _, _, _, _, _, _, _, _] (by decide) ⟨rfl, rfl, rfl, rfl, rfl, rfl, rfl, rfl, rfl, rfl, trivial⟩; clear S52
       refine ws_drawN [_, _] [_, _, _, _, _, _, _, _] rfl (by kernel_rfl) S53 8 rfl ?_
       clear S53
       change WA _ _ _ _ _ _ _ _ _ _ _ _ [_, _, _, _, _, _, _, _, _, _]
       refine wa_takeP (i := 0) (d := 70) 7 rfl (by kernel_rfl) (by kernel_rfl) (by kernel_rfl) rfl rfl rfl (fun w41 => run_move rfl rfl) ?_
       refine wa_take (i := 1) (d := 71) 6 rfl (by kernel_rfl) (by kernel_rfl) (by kernel_rfl) rfl rfl rfl (fun M20 N18 w42 hle22 S55 => .inl (run_indexR (C := cdSp) (i := 2) 3 rfl rfl rfl sl57 S55.suf rfl (by first | rfl | omega) (by first | omega | (simp only [lens]; omega)))) ?_
       refine wa_take (i := 2) (d := 72) 5 rfl (by kernel_rfl) (by kernel_rfl) (by kernel_rfl) rfl rfl rfl (fun M21 N19 w43 hle23 S56 => .inl (run_loadN (us := [_, _]) rfl rfl Try.underlying61 rfl sz61 (S56.suf.rowcs (i := 2) (e := 3) (j := 0) rfl (by first | omega | (simp only [lens]; omega)) ⟨rfl, rfl, trivial⟩))) ?_
       refine wa_takeP (i := 3) (d := 73) 4 rfl (by kernel_rfl) (by kernel_rfl) (by kernel_rfl) rfl rfl rfl (fun w44 => run_move rfl rfl) ?_
       refine wa_take (i := 4) (d := 74) 3 rfl (by kernel_rfl) (by kernel_rfl) (by kernel_rfl) rfl rfl rfl (fun M23 N21 w45 hle25 S58 => .inl (run_indexR (C := cdSp) (i := 2) 2 rfl rfl rfl sl57 S58.suf rfl (by first | rfl | omega) (by first | omega | (simp only [lens]; omega)))) ?_
       refine wa_take (i := 5) (d := 75) 2 rfl (by kernel_rfl) (by kernel_rfl) (by kernel_rfl) rfl rfl rfl (fun M24 N22 w46 hle26 S59 => .inl (run_loadN (us := [_, _]) rfl rfl Try.underlying61 rfl sz61 (S59.suf.rowcs (i := 2) (e := 2) (j := 0) rfl (by first | omega | (simp only [lens]; omega)) ⟨rfl, rfl, trivial⟩))) ?_
       refine wa_only (i := 6) 1 rfl (by kernel_rfl) rfl rfl (fun w48 S61 => ?_)
       refine (wo_storeB (i := 0) (us := [_, _]) (l' := [_, _]) (H' := [_, _, _, _, _, _, _, _, _, _]) rfl rfl S61 rfl rfl rfl rfl sz61 rfl rfl rfl rfl ?_)
       intro w49 S62; clear S61
       refine LeftW.grow [_, _] (Hp.le_refl _) S62 ?_; clear S62
       change WA _ _ _ _ _ _ _ _ _ _ _ _ [_, _, _, _, _, _, _, _, _, _]
       refine wa_only (i := 7) 0 rfl (by kernel_rfl) rfl rfl (fun w51 S64 => ?_)
       refine (wo_storeB (i := 1) (us := [_, _]) (l' := [_, _]) (H' := [_, _, _, _, _, _, _, _, _, _]) rfl rfl S64 rfl rfl rfl rfl sz61 rfl rfl rfl rfl ?_)
       intro w52 S65; clear S64
       refine LeftW.grow [_, _] (Hp.le_refl _) S65 ?_; clear S65
       change WA _ _ _ _ _ _ _ _ _ _ _ _ [_, _, _, _, _, _, _, _, _, _]
       refine wa_end (by kernel_rfl) (fun w53 S66 => ?_)
       refine nm_blk ?_
       refine nm_sub [(0, _), (2, _), (3, _), (4, _), (5, _), (6, _), (7, _), (8, _), (9, _), (10, _)] ⟨rfl, rfl, rfl, rfl, rfl, rfl, rfl, rfl, rfl, rfl, trivial⟩ ?_
       refine nm_thn ?_
       refine ws_region rfl ?_
       refine wlm 0 1 rfl rfl rfl rfl rfl rfl rfl ?_
       refine wlo 1 2 rfl rfl rfl (wo_run rfl rfl (run_add rfl rfl rfl (by first | omega | (simp only [lens]; omega))) ?_)
       refine wla 2 3 rfl rfl rfl rfl rfl rfl rfl ?_
       refine wl_end rfl ?_
       refine nm_lp ?_
       have hrc1 : (((prOf s9.L).a) ++ [(s9.X 1)]) ++ [(s9.X 3)] = (prOf (twD false false s9).L).a := (by unfold prOf; show _ = List.map _ ((s9.L ++ [(s9.X 1, cS s9.n false 0)]) ++ [(s9.X 3, cS s9.n false 1)]); rw [List.map_append, List.map_append]; rfl)
       rw [hrc1] at S66; clear hrc1
       have hrc2 : (((prOf s9.L).b) ++ [(ga ([(⟨(s9.n : Int), 3⟩ : Sp), (⟨(s9.n : Int), 0⟩ : Sp), (⟨(s9.n : Int), 1⟩ : Sp), (⟨(s9.n : Int), 2⟩ : Sp)]) 0)]) ++ [(ga ([(⟨(s9.n : Int), 3⟩ : Sp), (⟨(s9.n : Int), 0⟩ : Sp), (⟨(s9.n : Int), 1⟩ : Sp), (⟨(s9.n : Int), 2⟩ : Sp)]) 1)] = (prOf (twD false false s9).L).b := (by unfold prOf; show _ = List.map _ ((s9.L ++ [(s9.X 1, cS s9.n false 0)]) ++ [(s9.X 3, cS s9.n false 1)]); rw [List.map_append, List.map_append]; rfl)
       rw [hrc2] at S66; clear hrc2
       intro ax_ hax_
       refine ⟨_, ?hq3m, ⟨k + 1, twD false false s9, _, _, rfl, hax_.sub ⟨rfl, rfl, rfl, rfl, rfl, rfl, rfl, rfl, rfl, rfl, trivial⟩, S66.pick [3, 2, 1, 6, 0, 7, 8, 9] [_, _, _, _, _, _, _, _] (by decide) ⟨rfl, rfl, rfl, rfl, rfl, rfl, rfl, rfl, trivial⟩, ?hq3f0, ?hq3f1⟩⟩
       case hq3f0 => omega
       case hq3f1 => (rw [twQ_succ, dcs_snoc, ← hs9, show twX l i = (_, _) from htw])
       case hq3m => omega
      ·replace hb58 := of_decide_eq_false hb58
       have htw : twX l i = (true, false) := by unfold twX; rw [show decide ((i : Int) % 2 = 1) = true by simp; omega, hsg]
       refine ws_seqN LinkOf_n53 LinkOf_n54 rfl rfl rfl ?_
       have S67 := S20.pick [3, 2, 0, 1, 4, 5, 6, 7, 8, 9] [_, _, _, _, _, _, _, _, _, _] (by decide) ⟨rfl, rfl, rfl, rfl, rfl, rfl, rfl, rfl, rfl, rfl, trivial⟩; clear S20
       refine ws_drawN [_, _] [_, _, _, _, _, _, _, _] rfl (by kernel_rfl) S67 12 rfl ?_
       clear S67
       change WA _ _ _ _ _ _ _ _ _ _ _ _ [_, _, _, _, _, _, _, _, _, _]
       refine wa_take (i := 0) (d := 76) 11 rfl (by kernel_rfl) (by kernel_rfl) (by kernel_rfl) rfl rfl rfl (fun M27 N25 w54 hle29 S68 => .inl (run_loadN (us := [_, _]) rfl rfl Try.underlying59 rfl sz59 (S68.suf.boxcs (i := 6) rfl ⟨rfl, rfl, trivial⟩))) ?_
       refine wa_take (i := 1) (d := 77) 10 rfl (by kernel_rfl) (by kernel_rfl) (by kernel_rfl) rfl rfl rfl (fun M28 N26 w55 hle30 S69 => .inl (run_loadN (us := [_, _]) rfl rfl Try.underlying61 rfl sz61 (S69.suf.boxcs (i := 3) rfl ⟨rfl, rfl, trivial⟩))) ?_
       refine wa_takeP (i := 2) (d := 78) 9 rfl (by kernel_rfl) (by kernel_rfl) (by kernel_rfl) rfl rfl rfl (fun w56 => run_move rfl rfl) ?_
       refine wa_take (i := 3) (d := 79) 8 rfl (by kernel_rfl) (by kernel_rfl) (by kernel_rfl) rfl rfl rfl (fun M30 N28 w57 hle32 S71 => .inl (run_indexR (C := cdSp) (i := 0) 0 rfl rfl rfl sl57 S71.suf rfl (by first | rfl | omega) (by first | omega | (simp only [lens]; omega)))) ?_
       refine wa_take (i := 4) (d := 80) 7 rfl (by kernel_rfl) (by kernel_rfl) (by kernel_rfl) rfl rfl rfl (fun M31 N29 w58 hle33 S72 => .inl (run_loadN (us := [_, _]) rfl rfl Try.underlying61 rfl sz61 (S72.suf.rowcs (i := 0) (e := 0) (j := 0) rfl (by first | omega | (simp only [lens]; omega)) ⟨rfl, rfl, trivial⟩))) ?_
       refine wa_take (i := 6) (d := 82) 6 rfl (by kernel_rfl) (by kernel_rfl) (by kernel_rfl) rfl rfl rfl (fun M33 N31 w60 hle35 S74 => .inl (run_loadN (us := [_, _]) rfl rfl Try.underlying61 rfl sz61 (S74.suf.boxcs (i := 2) rfl ⟨rfl, rfl, trivial⟩))) ?_
       refine wa_takeP (i := 7) (d := 83) 5 rfl (by kernel_rfl) (by kernel_rfl) (by kernel_rfl) rfl rfl rfl (fun w62 => run_move rfl rfl) ?_
       refine wa_take (i := 8) (d := 84) 4 rfl (by kernel_rfl) (by kernel_rfl) (by kernel_rfl) rfl rfl rfl (fun M37 N35 w64 hle39 S78 => .inl (run_indexR (C := cdSp) (i := 0) 3 rfl rfl rfl sl57 S78.suf rfl (by first | rfl | omega) (by first | omega | (simp only [lens]; omega)))) ?_
       refine wa_take (i := 9) (d := 85) 3 rfl (by kernel_rfl) (by kernel_rfl) (by kernel_rfl) rfl rfl rfl (fun M39 N37 w66 hle41 S80 => .inl (run_loadN (us := [_, _]) rfl rfl Try.underlying61 rfl sz61 (S80.suf.rowcs (i := 0) (e := 3) (j := 0) rfl (by first | omega | (simp only [lens]; omega)) ⟨rfl, rfl, trivial⟩))) ?_
       refine wa_only (i := 5) 2 rfl (by kernel_rfl) rfl rfl (fun w68 S82 => ?_)
       have S83 := S82.pick [0, 1, 2, 3, 4, 5, 6, 7, 8, 9] [_, _, _, _, _, _, _, _, _, _] (by decide) ⟨rfl, rfl, rfl, rfl, rfl, rfl, rfl, rfl, rfl, rfl, trivial⟩; clear S82
       have S84 : SH _ _ _ (Rs.bun [_, _] :: [_, _, _, _, _, _, _, _]) := SH.bunC (A := [_, _]) (B := [_, _, _, _, _, _, _, _]) S83; clear S83
       have S85 : SH _ _ _ [_, _, _, _, _, _, _, _, _] := S84.less (i := 0) rfl
       have hcall3 := Tied_b ((prOf s9.L).a) ((prOf s9.L).b) (s9.X 2) (ga ([(⟨(s9.n : Int), 3⟩ : Sp), (⟨(s9.n : Int), 0⟩ : Sp), (⟨(s9.n : Int), 1⟩ : Sp), (⟨(s9.n : Int), 2⟩ : Sp)]) 0) (by omega) (by omega) (S84.lend1 (i := 0) rfl); clear S85
       refine (wo_c1 (i := 0) rfl rfl rfl rfl rfl rfl rfl cf30 S84 rfl hcall3 ?_)
       intro vw69 w69 M41 rw69 hle43 S86 hR5; clear S84
       obtain ⟨huhMX3, hMX3, hR6⟩ := hR5
       rw [hMX3] at S86
       clear hMX3
       obtain ⟨vra3, vrb3, rfl, rfl⟩ := hR6
       replace S86 : SH _ _ _ (Rs.bun [_, _] :: [_, _, _, _, _, _, _, _]) := S86
       have S87 : SH _ _ _ [_, _, _, _, _, _, _, _, _, _] := SH.unbunC (A := [_, _]) (B := [_, _, _, _, _, _, _, _]) S86; clear S86
       refine LeftW.grow [_, _] (Hp.le_refl _) S87 ?_; clear S87
       change WA _ _ _ _ _ _ _ _ _ _ _ _ [_, _, _, _, _, _, _, _, _, _]
       refine wa_only (i := 10) 1 rfl (by kernel_rfl) rfl rfl (fun w71 S89 => ?_)
       have S90 := S89.pick [0, 1, 2, 3, 4, 5, 6, 7, 8, 9] [_, _, _, _, _, _, _, _, _, _] (by decide) ⟨rfl, rfl, rfl, rfl, rfl, rfl, rfl, rfl, rfl, rfl, trivial⟩; clear S89
       have S91 : SH _ _ _ (Rs.bun [_, _] :: [_, _, _, _, _, _, _, _]) := SH.bunC (A := [_, _]) (B := [_, _, _, _, _, _, _, _]) S90; clear S90
       have S92 : SH _ _ _ [_, _, _, _, _, _, _, _, _] := S91.less (i := 0) rfl
       have hcall4 := Tied_b (((prOf s9.L).a) ++ [(s9.X 2)]) (((prOf s9.L).b) ++ [(ga ([(⟨(s9.n : Int), 3⟩ : Sp), (⟨(s9.n : Int), 0⟩ : Sp), (⟨(s9.n : Int), 1⟩ : Sp), (⟨(s9.n : Int), 2⟩ : Sp)]) 0)]) (s9.X 3) (ga ([(⟨(s9.n : Int), 3⟩ : Sp), (⟨(s9.n : Int), 0⟩ : Sp), (⟨(s9.n : Int), 1⟩ : Sp), (⟨(s9.n : Int), 2⟩ : Sp)]) 3) (by (simp only [List.length_append, List.length_singleton]; omega)) (by (simp only [List.length_append, List.length_singleton]; omega)) (S91.lend1 (i := 0) rfl); clear S92
       refine (wo_c1 (i := 0) rfl rfl rfl rfl rfl rfl rfl cf30 S91 rfl hcall4 ?_)
       intro vw72 w72 M43 rw72 hle45 S93 hR7; clear S91
       obtain ⟨huhMX4, hMX4, hR8⟩ := hR7
       rw [hMX4] at S93
       clear hMX4
       obtain ⟨vra4, vrb4, rfl, rfl⟩ := hR8
       replace S93 : SH _ _ _ (Rs.bun [_, _] :: [_, _, _, _, _, _, _, _]) := S93
       have S94 : SH _ _ _ [_, _, _, _, _, _, _, _, _, _] := SH.unbunC (A := [_, _]) (B := [_, _, _, _, _, _, _, _]) S93; clear S93
       refine LeftW.grow [_, _] (Hp.le_refl _) S94 ?_; clear S94
       change WA _ _ _ _ _ _ _ _ _ _ _ _ [_, _, _, _, _, _, _, _, _, _]
       refine wa_only (i := 11) 0 rfl (by kernel_rfl) rfl rfl (fun w74 S96 => ?_)
       refine (wo_storeB (i := 8) (us := [_, _]) (l' := [_, _]) (H' := [_, _, _, _, _, _, _, _, _, _]) rfl rfl S96 rfl rfl rfl rfl sz59 rfl (ones_cons (S96.one (i := 0) rfl) (ones_cons (S96.one (i := 1) rfl) rfl)) rfl rfl ?_)
       intro w75 S97; clear S96
       refine LeftW.turn (by kernel_rfl) S97 ?_; clear S97
       change WA _ _ _ _ _ _ _ _ _ _ _ _ [_, _, _, _, _, _, _, _, _, _]
       refine wa_end (by kernel_rfl) (fun w76 S98 => ?_)
       refine nm_sub [(0, _), (2, _), (3, _), (4, _), (5, _), (6, _), (7, _), (8, _), (9, _), (10, _), (11, _)] ⟨rfl, rfl, rfl, rfl, rfl, rfl, rfl, rfl, rfl, rfl, rfl, trivial⟩ ?_
       refine nm_thn ?_
       have S99 := S98.pick [5, 4, 0, 1, 2, 3, 6, 7, 8, 9] [_, _, _, _, _, _, _, _, _, _] (by decide) ⟨rfl, rfl, rfl, rfl, rfl, rfl, rfl, rfl, rfl, rfl, trivial⟩; clear S98
       refine ws_drawN [_, _] [_, _, _, _, _, _, _, _] rfl (by kernel_rfl) S99 8 rfl ?_
       clear S99
       change WA _ _ _ _ _ _ _ _ _ _ _ _ [_, _, _, _, _, _, _, _, _, _]
       refine wa_takeP (i := 0) (d := 87) 7 rfl (by kernel_rfl) (by kernel_rfl) (by kernel_rfl) rfl rfl rfl (fun w77 => run_move rfl rfl) ?_
       refine wa_take (i := 1) (d := 88) 6 rfl (by kernel_rfl) (by kernel_rfl) (by kernel_rfl) rfl rfl rfl (fun M46 N42 w78 hle48 S101 => .inl (run_indexR (C := cdSp) (i := 2) 1 rfl rfl rfl sl57 S101.suf rfl (by first | rfl | omega) (by first | omega | (simp only [lens]; omega)))) ?_
       refine wa_take (i := 2) (d := 89) 5 rfl (by kernel_rfl) (by kernel_rfl) (by kernel_rfl) rfl rfl rfl (fun M47 N43 w79 hle49 S102 => .inl (run_loadN (us := [_, _]) rfl rfl Try.underlying61 rfl sz61 (S102.suf.rowcs (i := 2) (e := 1) (j := 0) rfl (by first | omega | (simp only [lens]; omega)) ⟨rfl, rfl, trivial⟩))) ?_
       refine wa_takeP (i := 3) (d := 90) 4 rfl (by kernel_rfl) (by kernel_rfl) (by kernel_rfl) rfl rfl rfl (fun w80 => run_move rfl rfl) ?_
       refine wa_take (i := 4) (d := 91) 3 rfl (by kernel_rfl) (by kernel_rfl) (by kernel_rfl) rfl rfl rfl (fun M49 N45 w81 hle51 S104 => .inl (run_indexR (C := cdSp) (i := 2) 2 rfl rfl rfl sl57 S104.suf rfl (by first | rfl | omega) (by first | omega | (simp only [lens]; omega)))) ?_
       refine wa_take (i := 5) (d := 92) 2 rfl (by kernel_rfl) (by kernel_rfl) (by kernel_rfl) rfl rfl rfl (fun M50 N46 w82 hle52 S105 => .inl (run_loadN (us := [_, _]) rfl rfl Try.underlying61 rfl sz61 (S105.suf.rowcs (i := 2) (e := 2) (j := 0) rfl (by first | omega | (simp only [lens]; omega)) ⟨rfl, rfl, trivial⟩))) ?_
       refine wa_only (i := 6) 1 rfl (by kernel_rfl) rfl rfl (fun w84 S107 => ?_)
       refine (wo_storeB (i := 0) (us := [_, _]) (l' := [_, _]) (H' := [_, _, _, _, _, _, _, _, _, _]) rfl rfl S107 rfl rfl rfl rfl sz61 rfl rfl rfl rfl ?_)
       intro w85 S108; clear S107
       refine LeftW.grow [_, _] (Hp.le_refl _) S108 ?_; clear S108
       change WA _ _ _ _ _ _ _ _ _ _ _ _ [_, _, _, _, _, _, _, _, _, _]
       refine wa_only (i := 7) 0 rfl (by kernel_rfl) rfl rfl (fun w87 S110 => ?_)
       refine (wo_storeB (i := 1) (us := [_, _]) (l' := [_, _]) (H' := [_, _, _, _, _, _, _, _, _, _]) rfl rfl S110 rfl rfl rfl rfl sz61 rfl rfl rfl rfl ?_)
       intro w88 S111; clear S110
       refine LeftW.grow [_, _] (Hp.le_refl _) S111 ?_; clear S111
       change WA _ _ _ _ _ _ _ _ _ _ _ _ [_, _, _, _, _, _, _, _, _, _]
       refine wa_end (by kernel_rfl) (fun w89 S112 => ?_)
       refine nm_blk ?_
       refine nm_sub [(0, _), (2, _), (3, _), (4, _), (5, _), (6, _), (7, _), (8, _), (9, _), (10, _)] ⟨rfl, rfl, rfl, rfl, rfl, rfl, rfl, rfl, rfl, rfl, trivial⟩ ?_
       refine nm_thn ?_
       refine ws_region rfl ?_
       refine wlm 0 1 rfl rfl rfl rfl rfl rfl rfl ?_
       refine wlo 1 2 rfl rfl rfl (wo_run rfl rfl (run_add rfl rfl rfl (by first | omega | (simp only [lens]; omega))) ?_)
       refine wla 2 3 rfl rfl rfl rfl rfl rfl rfl ?_
       refine wl_end rfl ?_
       refine nm_lp ?_
       have hrc3 : (((prOf s9.L).a) ++ [(s9.X 2)]) ++ [(s9.X 3)] = (prOf (twD true false s9).L).a := (by unfold prOf; show _ = List.map _ ((s9.L ++ [(s9.X 2, cS s9.n false 0)]) ++ [(s9.X 3, cS s9.n false 3)]); rw [List.map_append, List.map_append]; rfl)
       rw [hrc3] at S112; clear hrc3
       have hrc4 : (((prOf s9.L).b) ++ [(ga ([(⟨(s9.n : Int), 3⟩ : Sp), (⟨(s9.n : Int), 0⟩ : Sp), (⟨(s9.n : Int), 1⟩ : Sp), (⟨(s9.n : Int), 2⟩ : Sp)]) 0)]) ++ [(ga ([(⟨(s9.n : Int), 3⟩ : Sp), (⟨(s9.n : Int), 0⟩ : Sp), (⟨(s9.n : Int), 1⟩ : Sp), (⟨(s9.n : Int), 2⟩ : Sp)]) 3)] = (prOf (twD true false s9).L).b := (by unfold prOf; show _ = List.map _ ((s9.L ++ [(s9.X 2, cS s9.n false 0)]) ++ [(s9.X 3, cS s9.n false 3)]); rw [List.map_append, List.map_append]; rfl)
       rw [hrc4] at S112; clear hrc4
       intro ax_ hax_
       refine ⟨_, ?hq4m, ⟨k + 1, twD true false s9, _, _, rfl, hax_.sub ⟨rfl, rfl, rfl, rfl, rfl, rfl, rfl, rfl, rfl, rfl, trivial⟩, S112.pick [3, 2, 1, 0, 6, 7, 8, 9] [_, _, _, _, _, _, _, _] (by decide) ⟨rfl, rfl, rfl, rfl, rfl, rfl, rfl, rfl, trivial⟩, ?hq4f0, ?hq4f1⟩⟩
       case hq4f0 => omega
       case hq4f1 => (rw [twQ_succ, dcs_snoc, ← hs9, show twX l i = (_, _) from htw])
       case hq4m => omega
     ·replace hb44 := of_decide_eq_false hb44
      have hsg : decide (0 < ga l i) = true := by simp; omega
      refine ws_skip rfl ?_
      refine nm_sub [(0, _), (2, _), (3, _), (4, _), (5, _), (6, _), (7, _), (8, _), (9, _), (10, _), (11, _)] ⟨rfl, rfl, rfl, rfl, rfl, rfl, rfl, rfl, rfl, rfl, rfl, trivial⟩ ?_
      refine nm_thn ?_
      refine ws_seqN LinkOf_n45 LinkOf_n46 rfl rfl rfl ?_
      have S113 := S17.boxrow (C := cdSp) [(⟨(s9.n : Int), 0⟩ : Sp), (⟨(s9.n : Int), 1⟩ : Sp), (⟨(s9.n : Int), 2⟩ : Sp), (⟨(s9.n : Int), 3⟩ : Sp)] (i := 0) (H' := [_, _, _, _, _, _, _, _, _]) rfl rfl (by simp) rfl; clear S17
      obtain ⟨vrc2, erc2⟩ : ∃ v, v = Value.slice (some ⟨gb7, 0, none⟩) ([(⟨(s9.n : Int), 0⟩ : Sp), (⟨(s9.n : Int), 1⟩ : Sp), (⟨(s9.n : Int), 2⟩ : Sp), (⟨(s9.n : Int), 3⟩ : Sp)]).length ([(⟨(s9.n : Int), 0⟩ : Sp), (⟨(s9.n : Int), 1⟩ : Sp), (⟨(s9.n : Int), 2⟩ : Sp), (⟨(s9.n : Int), 3⟩ : Sp)]).length := ⟨_, rfl⟩
      rw [← erc2] at S113
      refine ws_eq 11 (vrc2) rfl erc2.symm ?_
      refine ws_region rfl ?_
      refine wlm 0 1 rfl rfl rfl rfl rfl rfl rfl ?_
      refine wlo 1 2 rfl rfl rfl (wo_run rfl rfl (run_add rfl rfl rfl (by first | omega | (simp only [lens]; omega))) ?_)
      refine wla 2 3 rfl rfl rfl rfl rfl rfl rfl ?_
      refine wl_end rfl ?_
      refine nm_sub [(0, _), (2, _), (3, _), (4, _), (5, _), (6, _), (7, _), (8, _), (9, _), (10, _), (11, _)] ⟨rfl, rfl, rfl, rfl, rfl, rfl, rfl, rfl, rfl, rfl, rfl, trivial⟩ ?_
      refine nm_thn ?_
      refine ws_seqN LinkOf_n47 LinkOf_n48 rfl rfl rfl ?_
      refine ws_region rfl ?_
      refine wlm 0 1 rfl rfl rfl rfl rfl rfl rfl ?_
      refine wlo 1 2 rfl rfl rfl (wo_run rfl rfl (run_rem rfl rfl rfl (by first | omega | (simp only [lens]; omega))) ?_)
      refine wlo 2 3 rfl rfl rfl (wo_run rfl rfl (run_eql rfl rfl rfl) ?_)
      refine wl_end rfl ?_
      refine nm_sub [(0, _), (2, _), (3, _), (4, _), (5, _), (6, _), (7, _), (8, _), (9, _), (10, _), (11, _), (58, _)] ⟨rfl, rfl, rfl, rfl, rfl, rfl, rfl, rfl, rfl, rfl, rfl, rfl, trivial⟩ ?_
      refine nm_thn ?_
      refine ws_condN LinkOf_n49 LinkOf_n50 rfl rfl rfl rfl (fun hb58 => ?_) (fun hb58 => ?_)
      ·replace hb58 := of_decide_eq_true hb58
       have htw : twX l i = (false, true) := by unfold twX; rw [show decide ((i : Int) % 2 = 1) = false by simp; omega, hsg]
       refine ws_seqN LinkOf_n51 LinkOf_n52 rfl rfl rfl ?_
       have S114 := S113.pick [2, 1, 0, 3, 4, 5, 6, 7, 8] [_, _, _, _, _, _, _, _, _] (by decide) ⟨rfl, rfl, rfl, rfl, rfl, rfl, rfl, rfl, rfl, trivial⟩; clear S113
       refine ws_drawN [_, _] [_, _, _, _, _, _, _] rfl (by kernel_rfl) S114 12 rfl ?_
       clear S114
       change WA _ _ _ _ _ _ _ _ _ _ _ _ [_, _, _, _, _, _, _, _, _]
       refine wa_take (i := 0) (d := 59) 11 rfl (by kernel_rfl) (by kernel_rfl) (by kernel_rfl) rfl rfl rfl (fun M53 N49 w90 hle55 S115 => .inl (run_loadN (us := [_, _]) rfl rfl Try.underlying59 rfl sz59 (S115.suf.boxcs (i := 5) rfl ⟨rfl, rfl, trivial⟩))) ?_
       refine wa_take (i := 1) (d := 60) 10 rfl (by kernel_rfl) (by kernel_rfl) (by kernel_rfl) rfl rfl rfl (fun M54 N50 w91 hle56 S116 => .inl (run_loadN (us := [_, _]) rfl rfl Try.underlying61 rfl sz61 (S116.suf.boxcs (i := 3) rfl ⟨rfl, rfl, trivial⟩))) ?_
       refine wa_takeP (i := 2) (d := 61) 9 rfl (by kernel_rfl) (by kernel_rfl) (by kernel_rfl) rfl rfl rfl (fun w92 => run_move rfl rfl) ?_
       refine wa_take (i := 3) (d := 62) 8 rfl (by kernel_rfl) (by kernel_rfl) (by kernel_rfl) rfl rfl rfl (fun M56 N52 w93 hle58 S118 => .inl (run_indexR (C := cdSp) (i := 0) 0 rfl rfl rfl sl57 S118.suf rfl (by first | rfl | omega) (by first | omega | (simp only [lens]; omega)))) ?_
       refine wa_take (i := 4) (d := 63) 7 rfl (by kernel_rfl) (by kernel_rfl) (by kernel_rfl) rfl rfl rfl (fun M57 N53 w94 hle59 S119 => .inl (run_loadN (us := [_, _]) rfl rfl Try.underlying61 rfl sz61 (S119.suf.rowcs (i := 0) (e := 0) (j := 0) rfl (by first | omega | (simp only [lens]; omega)) ⟨rfl, rfl, trivial⟩))) ?_
       refine wa_take (i := 6) (d := 65) 6 rfl (by kernel_rfl) (by kernel_rfl) (by kernel_rfl) rfl rfl rfl (fun M59 N55 w96 hle61 S121 => .inl (run_loadN (us := [_, _]) rfl rfl Try.underlying61 rfl sz61 (S121.suf.boxcs (i := 1) rfl ⟨rfl, rfl, trivial⟩))) ?_
       refine wa_takeP (i := 7) (d := 66) 5 rfl (by kernel_rfl) (by kernel_rfl) (by kernel_rfl) rfl rfl rfl (fun w98 => run_move rfl rfl) ?_
       refine wa_take (i := 8) (d := 67) 4 rfl (by kernel_rfl) (by kernel_rfl) (by kernel_rfl) rfl rfl rfl (fun M63 N59 w100 hle65 S125 => .inl (run_indexR (C := cdSp) (i := 0) 1 rfl rfl rfl sl57 S125.suf rfl (by first | rfl | omega) (by first | omega | (simp only [lens]; omega)))) ?_
       refine wa_take (i := 9) (d := 68) 3 rfl (by kernel_rfl) (by kernel_rfl) (by kernel_rfl) rfl rfl rfl (fun M65 N61 w102 hle67 S127 => .inl (run_loadN (us := [_, _]) rfl rfl Try.underlying61 rfl sz61 (S127.suf.rowcs (i := 0) (e := 1) (j := 0) rfl (by first | omega | (simp only [lens]; omega)) ⟨rfl, rfl, trivial⟩))) ?_
       refine wa_only (i := 5) 2 rfl (by kernel_rfl) rfl rfl (fun w104 S129 => ?_)
       have S130 := S129.pick [0, 1, 2, 3, 4, 5, 6, 7, 8] [_, _, _, _, _, _, _, _, _] (by decide) ⟨rfl, rfl, rfl, rfl, rfl, rfl, rfl, rfl, rfl, trivial⟩; clear S129
       have S131 : SH _ _ _ (Rs.bun [_, _] :: [_, _, _, _, _, _, _]) := SH.bunC (A := [_, _]) (B := [_, _, _, _, _, _, _]) S130; clear S130
       have S132 : SH _ _ _ [_, _, _, _, _, _, _, _] := S131.less (i := 0) rfl
       have hcall5 := Tied_b ((prOf s9.L).a) ((prOf s9.L).b) (s9.X 1) (ga ([(⟨(s9.n : Int), 0⟩ : Sp), (⟨(s9.n : Int), 1⟩ : Sp), (⟨(s9.n : Int), 2⟩ : Sp), (⟨(s9.n : Int), 3⟩ : Sp)]) 0) (by omega) (by omega) (S131.lend1 (i := 0) rfl); clear S132
       refine (wo_c1 (i := 0) rfl rfl rfl rfl rfl rfl rfl cf30 S131 rfl hcall5 ?_)
       intro vw105 w105 M67 rw105 hle69 S133 hR9; clear S131
       obtain ⟨huhMX5, hMX5, hR10⟩ := hR9
       rw [hMX5] at S133
       clear hMX5
       obtain ⟨vra5, vrb5, rfl, rfl⟩ := hR10
       replace S133 : SH _ _ _ (Rs.bun [_, _] :: [_, _, _, _, _, _, _]) := S133
       have S134 : SH _ _ _ [_, _, _, _, _, _, _, _, _] := SH.unbunC (A := [_, _]) (B := [_, _, _, _, _, _, _]) S133; clear S133
       refine LeftW.grow [_, _] (Hp.le_refl _) S134 ?_; clear S134
       change WA _ _ _ _ _ _ _ _ _ _ _ _ [_, _, _, _, _, _, _, _, _]
       refine wa_only (i := 10) 1 rfl (by kernel_rfl) rfl rfl (fun w107 S136 => ?_)
       have S137 := S136.pick [0, 1, 2, 3, 4, 5, 6, 7, 8] [_, _, _, _, _, _, _, _, _] (by decide) ⟨rfl, rfl, rfl, rfl, rfl, rfl, rfl, rfl, rfl, trivial⟩; clear S136
       have S138 : SH _ _ _ (Rs.bun [_, _] :: [_, _, _, _, _, _, _]) := SH.bunC (A := [_, _]) (B := [_, _, _, _, _, _, _]) S137; clear S137
       have S139 : SH _ _ _ [_, _, _, _, _, _, _, _] := S138.less (i := 0) rfl
       have hcall6 := Tied_b (((prOf s9.L).a) ++ [(s9.X 1)]) (((prOf s9.L).b) ++ [(ga ([(⟨(s9.n : Int), 0⟩ : Sp), (⟨(s9.n : Int), 1⟩ : Sp), (⟨(s9.n : Int), 2⟩ : Sp), (⟨(s9.n : Int), 3⟩ : Sp)]) 0)]) (s9.X 3) (ga ([(⟨(s9.n : Int), 0⟩ : Sp), (⟨(s9.n : Int), 1⟩ : Sp), (⟨(s9.n : Int), 2⟩ : Sp), (⟨(s9.n : Int), 3⟩ : Sp)]) 1) (by (simp only [List.length_append, List.length_singleton]; omega)) (by (simp only [List.length_append, List.length_singleton]; omega)) (S138.lend1 (i := 0) rfl); clear S139
       refine (wo_c1 (i := 0) rfl rfl rfl rfl rfl rfl rfl cf30 S138 rfl hcall6 ?_)
       intro vw108 w108 M69 rw108 hle71 S140 hR11; clear S138
       obtain ⟨huhMX6, hMX6, hR12⟩ := hR11
       rw [hMX6] at S140
       clear hMX6
       obtain ⟨vra6, vrb6, rfl, rfl⟩ := hR12
       replace S140 : SH _ _ _ (Rs.bun [_, _] :: [_, _, _, _, _, _, _]) := S140
       have S141 : SH _ _ _ [_, _, _, _, _, _, _, _, _] := SH.unbunC (A := [_, _]) (B := [_, _, _, _, _, _, _]) S140; clear S140
       refine LeftW.grow [_, _] (Hp.le_refl _) S141 ?_; clear S141
       change WA _ _ _ _ _ _ _ _ _ _ _ _ [_, _, _, _, _, _, _, _, _]
       refine wa_only (i := 11) 0 rfl (by kernel_rfl) rfl rfl (fun w110 S143 => ?_)
       refine (wo_storeB (i := 7) (us := [_, _]) (l' := [_, _]) (H' := [_, _, _, _, _, _, _, _, _]) rfl rfl S143 rfl rfl rfl rfl sz59 rfl (ones_cons (S143.one (i := 0) rfl) (ones_cons (S143.one (i := 1) rfl) rfl)) rfl rfl ?_)
       intro w111 S144; clear S143
       refine LeftW.turn (by kernel_rfl) S144 ?_; clear S144
       change WA _ _ _ _ _ _ _ _ _ _ _ _ [_, _, _, _, _, _, _, _, _]
       refine wa_end (by kernel_rfl) (fun w112 S145 => ?_)
       refine nm_sub [(0, _), (2, _), (3, _), (4, _), (5, _), (6, _), (7, _), (8, _), (9, _), (10, _), (11, _)] ⟨rfl, rfl, rfl, rfl, rfl, rfl, rfl, rfl, rfl, rfl, rfl, trivial⟩ ?_
       refine nm_thn ?_
       have S146 := S145.pick [5, 3, 0, 1, 2, 4, 6, 7, 8] [_, _, _, _, _, _, _, _, _] (by decide) ⟨rfl, rfl, rfl, rfl, rfl, rfl, rfl, rfl, rfl, trivial⟩; clear S145
       refine ws_drawN [_, _] [_, _, _, _, _, _, _] rfl (by kernel_rfl) S146 8 rfl ?_
       clear S146
       change WA _ _ _ _ _ _ _ _ _ _ _ _ [_, _, _, _, _, _, _, _, _]
       refine wa_takeP (i := 0) (d := 70) 7 rfl (by kernel_rfl) (by kernel_rfl) (by kernel_rfl) rfl rfl rfl (fun w113 => run_move rfl rfl) ?_
       refine wa_take (i := 1) (d := 71) 6 rfl (by kernel_rfl) (by kernel_rfl) (by kernel_rfl) rfl rfl rfl (fun M72 N66 w114 hle74 S148 => .inl (run_indexR (C := cdSp) (i := 2) 3 rfl rfl rfl sl57 S148.suf rfl (by first | rfl | omega) (by first | omega | (simp only [lens]; omega)))) ?_
       refine wa_take (i := 2) (d := 72) 5 rfl (by kernel_rfl) (by kernel_rfl) (by kernel_rfl) rfl rfl rfl (fun M73 N67 w115 hle75 S149 => .inl (run_loadN (us := [_, _]) rfl rfl Try.underlying61 rfl sz61 (S149.suf.rowcs (i := 2) (e := 3) (j := 0) rfl (by first | omega | (simp only [lens]; omega)) ⟨rfl, rfl, trivial⟩))) ?_
       refine wa_takeP (i := 3) (d := 73) 4 rfl (by kernel_rfl) (by kernel_rfl) (by kernel_rfl) rfl rfl rfl (fun w116 => run_move rfl rfl) ?_
       refine wa_take (i := 4) (d := 74) 3 rfl (by kernel_rfl) (by kernel_rfl) (by kernel_rfl) rfl rfl rfl (fun M75 N69 w117 hle77 S151 => .inl (run_indexR (C := cdSp) (i := 2) 2 rfl rfl rfl sl57 S151.suf rfl (by first | rfl | omega) (by first | omega | (simp only [lens]; omega)))) ?_
       refine wa_take (i := 5) (d := 75) 2 rfl (by kernel_rfl) (by kernel_rfl) (by kernel_rfl) rfl rfl rfl (fun M76 N70 w118 hle78 S152 => .inl (run_loadN (us := [_, _]) rfl rfl Try.underlying61 rfl sz61 (S152.suf.rowcs (i := 2) (e := 2) (j := 0) rfl (by first | omega | (simp only [lens]; omega)) ⟨rfl, rfl, trivial⟩))) ?_
       refine wa_only (i := 6) 1 rfl (by kernel_rfl) rfl rfl (fun w120 S154 => ?_)
       refine (wo_storeB (i := 0) (us := [_, _]) (l' := [_, _]) (H' := [_, _, _, _, _, _, _, _, _]) rfl rfl S154 rfl rfl rfl rfl sz61 rfl rfl rfl rfl ?_)
       intro w121 S155; clear S154
       refine LeftW.grow [_, _] (Hp.le_refl _) S155 ?_; clear S155
       change WA _ _ _ _ _ _ _ _ _ _ _ _ [_, _, _, _, _, _, _, _, _]
       refine wa_only (i := 7) 0 rfl (by kernel_rfl) rfl rfl (fun w123 S157 => ?_)
       refine (wo_storeB (i := 1) (us := [_, _]) (l' := [_, _]) (H' := [_, _, _, _, _, _, _, _, _]) rfl rfl S157 rfl rfl rfl rfl sz61 rfl rfl rfl rfl ?_)
       intro w124 S158; clear S157
       refine LeftW.grow [_, _] (Hp.le_refl _) S158 ?_; clear S158
       change WA _ _ _ _ _ _ _ _ _ _ _ _ [_, _, _, _, _, _, _, _, _]
       refine wa_end (by kernel_rfl) (fun w125 S159 => ?_)
       refine nm_blk ?_
       refine nm_sub [(0, _), (2, _), (3, _), (4, _), (5, _), (6, _), (7, _), (8, _), (9, _), (10, _)] ⟨rfl, rfl, rfl, rfl, rfl, rfl, rfl, rfl, rfl, rfl, trivial⟩ ?_
       refine nm_thn ?_
       refine ws_region rfl ?_
       refine wlm 0 1 rfl rfl rfl rfl rfl rfl rfl ?_
       refine wlo 1 2 rfl rfl rfl (wo_run rfl rfl (run_add rfl rfl rfl (by first | omega | (simp only [lens]; omega))) ?_)
       refine wla 2 3 rfl rfl rfl rfl rfl rfl rfl ?_
       refine wl_end rfl ?_
       refine nm_lp ?_
       have hrc5 : (((prOf s9.L).a) ++ [(s9.X 1)]) ++ [(s9.X 3)] = (prOf (twD false true s9).L).a := (by unfold prOf; show _ = List.map _ ((s9.L ++ [(s9.X 1, cS s9.n true 0)]) ++ [(s9.X 3, cS s9.n true 1)]); rw [List.map_append, List.map_append]; rfl)
       rw [hrc5] at S159; clear hrc5
       have hrc6 : (((prOf s9.L).b) ++ [(ga ([(⟨(s9.n : Int), 0⟩ : Sp), (⟨(s9.n : Int), 1⟩ : Sp), (⟨(s9.n : Int), 2⟩ : Sp), (⟨(s9.n : Int), 3⟩ : Sp)]) 0)]) ++ [(ga ([(⟨(s9.n : Int), 0⟩ : Sp), (⟨(s9.n : Int), 1⟩ : Sp), (⟨(s9.n : Int), 2⟩ : Sp), (⟨(s9.n : Int), 3⟩ : Sp)]) 1)] = (prOf (twD false true s9).L).b := (by unfold prOf; show _ = List.map _ ((s9.L ++ [(s9.X 1, cS s9.n true 0)]) ++ [(s9.X 3, cS s9.n true 1)]); rw [List.map_append, List.map_append]; rfl)
       rw [hrc6] at S159; clear hrc6
       intro ax_ hax_
       refine ⟨_, ?hq5m, ⟨k + 1, twD false true s9, _, _, rfl, hax_.sub ⟨rfl, rfl, rfl, rfl, rfl, rfl, rfl, rfl, rfl, rfl, trivial⟩, S159.pick [3, 2, 1, 5, 0, 6, 7, 8] [_, _, _, _, _, _, _, _] (by decide) ⟨rfl, rfl, rfl, rfl, rfl, rfl, rfl, rfl, trivial⟩, ?hq5f0, ?hq5f1⟩⟩
       case hq5f0 => omega
       case hq5f1 => (rw [twQ_succ, dcs_snoc, ← hs9, show twX l i = (_, _) from htw])
       case hq5m => omega
      ·replace hb58 := of_decide_eq_false hb58
       have htw : twX l i = (true, true) := by unfold twX; rw [show decide ((i : Int) % 2 = 1) = true by simp; omega, hsg]
       refine ws_seqN LinkOf_n53 LinkOf_n54 rfl rfl rfl ?_
       have S160 := S113.pick [2, 1, 0, 3, 4, 5, 6, 7, 8] [_, _, _, _, _, _, _, _, _] (by decide) ⟨rfl, rfl, rfl, rfl, rfl, rfl, rfl, rfl, rfl, trivial⟩; clear S113
       refine ws_drawN [_, _] [_, _, _, _, _, _, _] rfl (by kernel_rfl) S160 12 rfl ?_
       clear S160
       change WA _ _ _ _ _ _ _ _ _ _ _ _ [_, _, _, _, _, _, _, _, _]
       refine wa_take (i := 0) (d := 76) 11 rfl (by kernel_rfl) (by kernel_rfl) (by kernel_rfl) rfl rfl rfl (fun M79 N73 w126 hle81 S161 => .inl (run_loadN (us := [_, _]) rfl rfl Try.underlying59 rfl sz59 (S161.suf.boxcs (i := 5) rfl ⟨rfl, rfl, trivial⟩))) ?_
       refine wa_take (i := 1) (d := 77) 10 rfl (by kernel_rfl) (by kernel_rfl) (by kernel_rfl) rfl rfl rfl (fun M80 N74 w127 hle82 S162 => .inl (run_loadN (us := [_, _]) rfl rfl Try.underlying61 rfl sz61 (S162.suf.boxcs (i := 2) rfl ⟨rfl, rfl, trivial⟩))) ?_
       refine wa_takeP (i := 2) (d := 78) 9 rfl (by kernel_rfl) (by kernel_rfl) (by kernel_rfl) rfl rfl rfl (fun w128 => run_move rfl rfl) ?_
       refine wa_take (i := 3) (d := 79) 8 rfl (by kernel_rfl) (by kernel_rfl) (by kernel_rfl) rfl rfl rfl (fun M82 N76 w129 hle84 S164 => .inl (run_indexR (C := cdSp) (i := 0) 0 rfl rfl rfl sl57 S164.suf rfl (by first | rfl | omega) (by first | omega | (simp only [lens]; omega)))) ?_
       refine wa_take (i := 4) (d := 80) 7 rfl (by kernel_rfl) (by kernel_rfl) (by kernel_rfl) rfl rfl rfl (fun M83 N77 w130 hle85 S165 => .inl (run_loadN (us := [_, _]) rfl rfl Try.underlying61 rfl sz61 (S165.suf.rowcs (i := 0) (e := 0) (j := 0) rfl (by first | omega | (simp only [lens]; omega)) ⟨rfl, rfl, trivial⟩))) ?_
       refine wa_take (i := 6) (d := 82) 6 rfl (by kernel_rfl) (by kernel_rfl) (by kernel_rfl) rfl rfl rfl (fun M85 N79 w132 hle87 S167 => .inl (run_loadN (us := [_, _]) rfl rfl Try.underlying61 rfl sz61 (S167.suf.boxcs (i := 1) rfl ⟨rfl, rfl, trivial⟩))) ?_
       refine wa_takeP (i := 7) (d := 83) 5 rfl (by kernel_rfl) (by kernel_rfl) (by kernel_rfl) rfl rfl rfl (fun w134 => run_move rfl rfl) ?_
       refine wa_take (i := 8) (d := 84) 4 rfl (by kernel_rfl) (by kernel_rfl) (by kernel_rfl) rfl rfl rfl (fun M89 N83 w136 hle91 S171 => .inl (run_indexR (C := cdSp) (i := 0) 3 rfl rfl rfl sl57 S171.suf rfl (by first | rfl | omega) (by first | omega | (simp only [lens]; omega)))) ?_
       refine wa_take (i := 9) (d := 85) 3 rfl (by kernel_rfl) (by kernel_rfl) (by kernel_rfl) rfl rfl rfl (fun M91 N85 w138 hle93 S173 => .inl (run_loadN (us := [_, _]) rfl rfl Try.underlying61 rfl sz61 (S173.suf.rowcs (i := 0) (e := 3) (j := 0) rfl (by first | omega | (simp only [lens]; omega)) ⟨rfl, rfl, trivial⟩))) ?_
       refine wa_only (i := 5) 2 rfl (by kernel_rfl) rfl rfl (fun w140 S175 => ?_)
       have S176 := S175.pick [0, 1, 2, 3, 4, 5, 6, 7, 8] [_, _, _, _, _, _, _, _, _] (by decide) ⟨rfl, rfl, rfl, rfl, rfl, rfl, rfl, rfl, rfl, trivial⟩; clear S175
       have S177 : SH _ _ _ (Rs.bun [_, _] :: [_, _, _, _, _, _, _]) := SH.bunC (A := [_, _]) (B := [_, _, _, _, _, _, _]) S176; clear S176
       have S178 : SH _ _ _ [_, _, _, _, _, _, _, _] := S177.less (i := 0) rfl
       have hcall7 := Tied_b ((prOf s9.L).a) ((prOf s9.L).b) (s9.X 2) (ga ([(⟨(s9.n : Int), 0⟩ : Sp), (⟨(s9.n : Int), 1⟩ : Sp), (⟨(s9.n : Int), 2⟩ : Sp), (⟨(s9.n : Int), 3⟩ : Sp)]) 0) (by omega) (by omega) (S177.lend1 (i := 0) rfl); clear S178
       refine (wo_c1 (i := 0) rfl rfl rfl rfl rfl rfl rfl cf30 S177 rfl hcall7 ?_)
       intro vw141 w141 M93 rw141 hle95 S179 hR13; clear S177
       obtain ⟨huhMX7, hMX7, hR14⟩ := hR13
       rw [hMX7] at S179
       clear hMX7
       obtain ⟨vra7, vrb7, rfl, rfl⟩ := hR14
       replace S179 : SH _ _ _ (Rs.bun [_, _] :: [_, _, _, _, _, _, _]) := S179
       have S180 : SH _ _ _ [_, _, _, _, _, _, _, _, _] := SH.unbunC (A := [_, _]) (B := [_, _, _, _, _, _, _]) S179; clear S179
       refine LeftW.grow [_, _] (Hp.le_refl _) S180 ?_; clear S180
       change WA _ _ _ _ _ _ _ _ _ _ _ _ [_, _, _, _, _, _, _, _, _]
       refine wa_only (i := 10) 1 rfl (by kernel_rfl) rfl rfl (fun w143 S182 => ?_)
       have S183 := S182.pick [0, 1, 2, 3, 4, 5, 6, 7, 8] [_, _, _, _, _, _, _, _, _] (by decide) ⟨rfl, rfl, rfl, rfl, rfl, rfl, rfl, rfl, rfl, trivial⟩; clear S182
       have S184 : SH _ _ _ (Rs.bun [_, _] :: [_, _, _, _, _, _, _]) := SH.bunC (A := [_, _]) (B := [_, _, _, _, _, _, _]) S183; clear S183
       have S185 : SH _ _ _ [_, _, _, _, _, _, _, _] := S184.less (i := 0) rfl
       have hcall8 := Tied_b (((prOf s9.L).a) ++ [(s9.X 2)]) (((prOf s9.L).b) ++ [(ga ([(⟨(s9.n : Int), 0⟩ : Sp), (⟨(s9.n : Int), 1⟩ : Sp), (⟨(s9.n : Int), 2⟩ : Sp), (⟨(s9.n : Int), 3⟩ : Sp)]) 0)]) (s9.X 3) (ga ([(⟨(s9.n : Int), 0⟩ : Sp), (⟨(s9.n : Int), 1⟩ : Sp), (⟨(s9.n : Int), 2⟩ : Sp), (⟨(s9.n : Int), 3⟩ : Sp)]) 3) (by (simp only [List.length_append, List.length_singleton]; omega)) (by (simp only [List.length_append, List.length_singleton]; omega)) (S184.lend1 (i := 0) rfl); clear S185
       refine (wo_c1 (i := 0) rfl rfl rfl rfl rfl rfl rfl cf30 S184 rfl hcall8 ?_)
       intro vw144 w144 M95 rw144 hle97 S186 hR15; clear S184
       obtain ⟨huhMX8, hMX8, hR16⟩ := hR15
       rw [hMX8] at S186
       clear hMX8
       obtain ⟨vra8, vrb8, rfl, rfl⟩ := hR16
       replace S186 : SH _ _ _ (Rs.bun [_, _] :: [_, _, _, _, _, _, _]) := S186
       have S187 : SH _ _ _ [_, _, _, _, _, _, _, _, _] := SH.unbunC (A := [_, _]) (B := [_, _, _, _, _, _, _]) S186; clear S186
       refine LeftW.grow [_, _] (Hp.le_refl _) S187 ?_; clear S187
       change WA _ _ _ _ _ _ _ _ _ _ _ _ [_, _, _, _, _, _, _, _, _]
       refine wa_only (i := 11) 0 rfl (by kernel_rfl) rfl rfl (fun w146 S189 => ?_)
       refine (wo_storeB (i := 7) (us := [_, _]) (l' := [_, _]) (H' := [_, _, _, _, _, _, _, _, _]) rfl rfl S189 rfl rfl rfl rfl sz59 rfl (ones_cons (S189.one (i := 0) rfl) (ones_cons (S189.one (i := 1) rfl) rfl)) rfl rfl ?_)
       intro w147 S190; clear S189
       refine LeftW.turn (by kernel_rfl) S190 ?_; clear S190
       change WA _ _ _ _ _ _ _ _ _ _ _ _ [_, _, _, _, _, _, _, _, _]
       refine wa_end (by kernel_rfl) (fun w148 S191 => ?_)
       refine nm_sub [(0, _), (2, _), (3, _), (4, _), (5, _), (6, _), (7, _), (8, _), (9, _), (10, _), (11, _)] ⟨rfl, rfl, rfl, rfl, rfl, rfl, rfl, rfl, rfl, rfl, rfl, trivial⟩ ?_
       refine nm_thn ?_
       have S192 := S191.pick [4, 3, 0, 1, 2, 5, 6, 7, 8] [_, _, _, _, _, _, _, _, _] (by decide) ⟨rfl, rfl, rfl, rfl, rfl, rfl, rfl, rfl, rfl, trivial⟩; clear S191
       refine ws_drawN [_, _] [_, _, _, _, _, _, _] rfl (by kernel_rfl) S192 8 rfl ?_
       clear S192
       change WA _ _ _ _ _ _ _ _ _ _ _ _ [_, _, _, _, _, _, _, _, _]
       refine wa_takeP (i := 0) (d := 87) 7 rfl (by kernel_rfl) (by kernel_rfl) (by kernel_rfl) rfl rfl rfl (fun w149 => run_move rfl rfl) ?_
       refine wa_take (i := 1) (d := 88) 6 rfl (by kernel_rfl) (by kernel_rfl) (by kernel_rfl) rfl rfl rfl (fun M98 N90 w150 hle100 S194 => .inl (run_indexR (C := cdSp) (i := 2) 1 rfl rfl rfl sl57 S194.suf rfl (by first | rfl | omega) (by first | omega | (simp only [lens]; omega)))) ?_
       refine wa_take (i := 2) (d := 89) 5 rfl (by kernel_rfl) (by kernel_rfl) (by kernel_rfl) rfl rfl rfl (fun M99 N91 w151 hle101 S195 => .inl (run_loadN (us := [_, _]) rfl rfl Try.underlying61 rfl sz61 (S195.suf.rowcs (i := 2) (e := 1) (j := 0) rfl (by first | omega | (simp only [lens]; omega)) ⟨rfl, rfl, trivial⟩))) ?_
       refine wa_takeP (i := 3) (d := 90) 4 rfl (by kernel_rfl) (by kernel_rfl) (by kernel_rfl) rfl rfl rfl (fun w152 => run_move rfl rfl) ?_
       refine wa_take (i := 4) (d := 91) 3 rfl (by kernel_rfl) (by kernel_rfl) (by kernel_rfl) rfl rfl rfl (fun M101 N93 w153 hle103 S197 => .inl (run_indexR (C := cdSp) (i := 2) 2 rfl rfl rfl sl57 S197.suf rfl (by first | rfl | omega) (by first | omega | (simp only [lens]; omega)))) ?_
       refine wa_take (i := 5) (d := 92) 2 rfl (by kernel_rfl) (by kernel_rfl) (by kernel_rfl) rfl rfl rfl (fun M102 N94 w154 hle104 S198 => .inl (run_loadN (us := [_, _]) rfl rfl Try.underlying61 rfl sz61 (S198.suf.rowcs (i := 2) (e := 2) (j := 0) rfl (by first | omega | (simp only [lens]; omega)) ⟨rfl, rfl, trivial⟩))) ?_
       refine wa_only (i := 6) 1 rfl (by kernel_rfl) rfl rfl (fun w156 S200 => ?_)
       refine (wo_storeB (i := 0) (us := [_, _]) (l' := [_, _]) (H' := [_, _, _, _, _, _, _, _, _]) rfl rfl S200 rfl rfl rfl rfl sz61 rfl rfl rfl rfl ?_)
       intro w157 S201; clear S200
       refine LeftW.grow [_, _] (Hp.le_refl _) S201 ?_; clear S201
       change WA _ _ _ _ _ _ _ _ _ _ _ _ [_, _, _, _, _, _, _, _, _]
       refine wa_only (i := 7) 0 rfl (by kernel_rfl) rfl rfl (fun w159 S203 => ?_)
       refine (wo_storeB (i := 1) (us := [_, _]) (l' := [_, _]) (H' := [_, _, _, _, _, _, _, _, _]) rfl rfl S203 rfl rfl rfl rfl sz61 rfl rfl rfl rfl ?_)
       intro w160 S204; clear S203
       refine LeftW.grow [_, _] (Hp.le_refl _) S204 ?_; clear S204
       change WA _ _ _ _ _ _ _ _ _ _ _ _ [_, _, _, _, _, _, _, _, _]
       refine wa_end (by kernel_rfl) (fun w161 S205 => ?_)
       refine nm_blk ?_
       refine nm_sub [(0, _), (2, _), (3, _), (4, _), (5, _), (6, _), (7, _), (8, _), (9, _), (10, _)] ⟨rfl, rfl, rfl, rfl, rfl, rfl, rfl, rfl, rfl, rfl, trivial⟩ ?_
       refine nm_thn ?_
       refine ws_region rfl ?_
       refine wlm 0 1 rfl rfl rfl rfl rfl rfl rfl ?_
       refine wlo 1 2 rfl rfl rfl (wo_run rfl rfl (run_add rfl rfl rfl (by first | omega | (simp only [lens]; omega))) ?_)
       refine wla 2 3 rfl rfl rfl rfl rfl rfl rfl ?_
       refine wl_end rfl ?_
       refine nm_lp ?_
       have hrc7 : (((prOf s9.L).a) ++ [(s9.X 2)]) ++ [(s9.X 3)] = (prOf (twD true true s9).L).a := (by unfold prOf; show _ = List.map _ ((s9.L ++ [(s9.X 2, cS s9.n true 0)]) ++ [(s9.X 3, cS s9.n true 3)]); rw [List.map_append, List.map_append]; rfl)
       rw [hrc7] at S205; clear hrc7
       have hrc8 : (((prOf s9.L).b) ++ [(ga ([(⟨(s9.n : Int), 0⟩ : Sp), (⟨(s9.n : Int), 1⟩ : Sp), (⟨(s9.n : Int), 2⟩ : Sp), (⟨(s9.n : Int), 3⟩ : Sp)]) 0)]) ++ [(ga ([(⟨(s9.n : Int), 0⟩ : Sp), (⟨(s9.n : Int), 1⟩ : Sp), (⟨(s9.n : Int), 2⟩ : Sp), (⟨(s9.n : Int), 3⟩ : Sp)]) 3)] = (prOf (twD true true s9).L).b := (by unfold prOf; show _ = List.map _ ((s9.L ++ [(s9.X 2, cS s9.n true 0)]) ++ [(s9.X 3, cS s9.n true 3)]); rw [List.map_append, List.map_append]; rfl)
       rw [hrc8] at S205; clear hrc8
       intro ax_ hax_
       refine ⟨_, ?hq6m, ⟨k + 1, twD true true s9, _, _, rfl, hax_.sub ⟨rfl, rfl, rfl, rfl, rfl, rfl, rfl, rfl, rfl, rfl, trivial⟩, S205.pick [3, 2, 1, 0, 5, 6, 7, 8] [_, _, _, _, _, _, _, _] (by decide) ⟨rfl, rfl, rfl, rfl, rfl, rfl, rfl, rfl, trivial⟩, ?hq6f0, ?hq6f1⟩⟩
       case hq6f0 => omega
       case hq6f1 => (rw [twQ_succ, dcs_snoc, ← hs9, show twX l i = (_, _) from htw])
       case hq6m => omega
    ·replace hb28 := of_decide_eq_false hb28
     refine ws_exit rfl rfl ?_
     refine nm_blk ?_
     refine nm_sub [(0, _), (2, _), (3, _), (4, _), (5, _), (6, _), (7, _), (8, _), (9, _)] ⟨rfl, rfl, rfl, rfl, rfl, rfl, rfl, rfl, rfl, trivial⟩ ?_
     refine nm_thn ?_
     refine ws_region rfl ?_
     refine wlm 0 1 rfl rfl rfl rfl rfl rfl rfl ?_
     refine wlo 1 2 rfl rfl rfl (wo_run rfl rfl (run_add rfl rfl rfl (by first | omega | (simp only [lens]; omega))) ?_)
     refine wla 2 3 rfl rfl rfl rfl rfl rfl rfl ?_
     refine wl_end rfl ?_
     refine nm_lp ?_
     intro ax_ hax_
     refine ⟨_, ?hq7m, ⟨i + 1, s9, _, _, rfl, hax_.sub ⟨rfl, rfl, rfl, rfl, rfl, rfl, rfl, rfl, rfl, trivial⟩, S15.pick [0, 1, 2, 3, 4, 5, 6, 7] [_, _, _, _, _, _, _, _] (by decide) ⟨rfl, rfl, rfl, rfl, rfl, rfl, rfl, rfl, trivial⟩, ?hq7f0, ?hq7f1⟩⟩
     case hq7f0 => omega
     case hq7f1 => (rw [hs9, show k = (ga l i).natAbs by omega]; rfl)
     case hq7m => omega
  ·replace hb19 := of_decide_eq_false hb19
   refine ws_exit rfl rfl ?_
   refine nm_sub [(2, _), (3, _), (4, _), (5, _), (6, _), (7, _), (8, _)] ⟨rfl, rfl, rfl, rfl, rfl, rfl, rfl, trivial⟩ ?_
   refine nm_thn ?_
   refine ws_seqN LinkOf_n55 LinkOf_n56 rfl rfl rfl ?_
   have hs8n : s8.n = (twP l i).length := by rw [hs8]; exact (jn_all (sgT _) _ fun _ _ => rfl).n
   have hll8 : s8.L.length = 2 * (twP l i).length := by rw [hs8]; exact dcs_L _
   have htl := twP_len l i
   have hmo := sumA_mono l i l.length hi
   have hxz : s8.X 0 = vt 0 := by rw [hs8]; exact (jn_all (sgT _) _ fun _ _ => rfl).xz
   have hla : (prOf s8.L).a.length = s8.L.length := by unfold prOf; simp
   have hlb : (prOf s8.L).b.length = s8.L.length := by unfold prOf; simp
   have S206 := S13.pick [1, 0, 2, 3, 4, 5, 6, 7] [_, _, _, _, _, _, _, _] (by decide) ⟨rfl, rfl, rfl, rfl, rfl, rfl, rfl, rfl, trivial⟩; clear S13
   refine ws_drawN [_, _] [_, _, _, _, _, _] rfl (by kernel_rfl) S206 8 rfl ?_
   clear S206
   change WA _ _ _ _ _ _ _ _ _ _ _ _ [_, _, _, _, _, _, _, _]
   refine wa_take (i := 0) (d := 93) 7 rfl (by kernel_rfl) (by kernel_rfl) (by kernel_rfl) rfl rfl rfl (fun M105 N97 w162 hle107 S207 => .inl (run_loadN (us := [_, _]) rfl rfl Try.underlying59 rfl sz59 (S207.suf.boxcs (i := 4) rfl ⟨rfl, rfl, trivial⟩))) ?_
   refine wa_take (i := 1) (d := 94) 6 rfl (by kernel_rfl) (by kernel_rfl) (by kernel_rfl) rfl rfl rfl (fun M106 N98 w163 hle108 S208 => .inl (run_loadN (us := [_, _]) rfl rfl Try.underlying61 rfl sz61 (S208.suf.boxcs (i := 3) rfl ⟨rfl, rfl, trivial⟩))) ?_
   refine wa_take (i := 2) (d := 95) 5 rfl (by kernel_rfl) (by kernel_rfl) (by kernel_rfl) rfl rfl rfl (fun M107 N99 w164 hle109 S209 => .inl (run_loadN (us := [_, _]) rfl rfl Try.underlying61 rfl sz61 (S209.suf.boxcs (i := 2) rfl ⟨rfl, rfl, trivial⟩))) ?_
   refine wa_take (i := 4) (d := 97) 4 rfl (by kernel_rfl) (by kernel_rfl) (by kernel_rfl) rfl rfl rfl (fun M109 N101 w166 hle111 S211 => .inl (run_loadN (us := [_, _]) rfl rfl Try.underlying61 rfl sz61 (S211.suf.boxcs (i := 1) rfl ⟨rfl, rfl, trivial⟩))) ?_
   refine wa_take (i := 5) (d := 98) 3 rfl (by kernel_rfl) (by kernel_rfl) (by kernel_rfl) rfl rfl rfl (fun M111 N103 w168 hle113 S213 => .inl (run_loadN (us := [_, _]) rfl rfl Try.underlying61 rfl sz61 (S213.suf.boxcs (i := 0) rfl ⟨rfl, rfl, trivial⟩))) ?_
   refine wa_only (i := 3) 2 rfl (by kernel_rfl) rfl rfl (fun w170 S215 => ?_)
   have S216 := S215.pick [0, 1, 2, 3, 4, 5, 6, 7] [_, _, _, _, _, _, _, _] (by decide) ⟨rfl, rfl, rfl, rfl, rfl, rfl, rfl, rfl, trivial⟩; clear S215
   have S217 : SH _ _ _ (Rs.bun [_, _] :: [_, _, _, _, _, _]) := SH.bunC (A := [_, _]) (B := [_, _, _, _, _, _]) S216; clear S216
   have S218 : SH _ _ _ [_, _, _, _, _, _, _] := S217.less (i := 0) rfl
   have hcall9 := Tied_b ((prOf s8.L).a) ((prOf s8.L).b) (⟨(-1), 0⟩ : Sp) (s8.X 1) (by omega) (by omega) (S217.lend1 (i := 0) rfl); clear S218
   refine (wo_c1 (i := 0) rfl rfl rfl rfl rfl rfl rfl cf30 S217 rfl hcall9 ?_)
   intro vw171 w171 M113 rw171 hle115 S219 hR17; clear S217
   obtain ⟨huhMX9, hMX9, hR18⟩ := hR17
   rw [hMX9] at S219
   clear hMX9
   obtain ⟨vra9, vrb9, rfl, rfl⟩ := hR18
   replace S219 : SH _ _ _ (Rs.bun [_, _] :: [_, _, _, _, _, _]) := S219
   have S220 : SH _ _ _ [_, _, _, _, _, _, _, _] := SH.unbunC (A := [_, _]) (B := [_, _, _, _, _, _]) S219; clear S219
   refine LeftW.grow [_, _] (Hp.le_refl _) S220 ?_; clear S220
   change WA _ _ _ _ _ _ _ _ _ _ _ _ [_, _, _, _, _, _, _, _]
   refine wa_only (i := 6) 1 rfl (by kernel_rfl) rfl rfl (fun w173 S222 => ?_)
   have S223 := S222.pick [0, 1, 2, 3, 4, 5, 6, 7] [_, _, _, _, _, _, _, _] (by decide) ⟨rfl, rfl, rfl, rfl, rfl, rfl, rfl, rfl, trivial⟩; clear S222
   have S224 : SH _ _ _ (Rs.bun [_, _] :: [_, _, _, _, _, _]) := SH.bunC (A := [_, _]) (B := [_, _, _, _, _, _]) S223; clear S223
   have S225 : SH _ _ _ [_, _, _, _, _, _, _] := S224.less (i := 0) rfl
   have hcall10 := Tied_b (((prOf s8.L).a) ++ [(⟨(-1), 0⟩ : Sp)]) (((prOf s8.L).b) ++ [(s8.X 1)]) (s8.X 2) (s8.X 3) (by (simp only [List.length_append, List.length_singleton]; omega)) (by (simp only [List.length_append, List.length_singleton]; omega)) (S224.lend1 (i := 0) rfl); clear S225
   refine (wo_c1 (i := 0) rfl rfl rfl rfl rfl rfl rfl cf30 S224 rfl hcall10 ?_)
   intro vw174 w174 M115 rw174 hle117 S226 hR19; clear S224
   obtain ⟨huhMX10, hMX10, hR20⟩ := hR19
   rw [hMX10] at S226
   clear hMX10
   obtain ⟨vra10, vrb10, rfl, rfl⟩ := hR20
   replace S226 : SH _ _ _ (Rs.bun [_, _] :: [_, _, _, _, _, _]) := S226
   have S227 : SH _ _ _ [_, _, _, _, _, _, _, _] := SH.unbunC (A := [_, _]) (B := [_, _, _, _, _, _]) S226; clear S226
   refine LeftW.grow [_, _] (Hp.le_refl _) S227 ?_; clear S227
   change WA _ _ _ _ _ _ _ _ _ _ _ _ [_, _, _, _, _, _, _, _]
   refine wa_only (i := 7) 0 rfl (by kernel_rfl) rfl rfl (fun w176 S229 => ?_)
   refine (wo_storeB (i := 6) (us := [_, _]) (l' := [_, _]) (H' := [_, _, _, _, _, _, _, _]) rfl rfl S229 rfl rfl rfl rfl sz59 rfl (ones_cons (S229.one (i := 0) rfl) (ones_cons (S229.one (i := 1) rfl) rfl)) rfl rfl ?_)
   intro w177 S230; clear S229
   refine LeftW.turn (by kernel_rfl) S230 ?_; clear S230
   change WA _ _ _ _ _ _ _ _ _ _ _ _ [_, _, _, _, _, _, _, _]
   refine wa_end (by kernel_rfl) (fun w178 S231 => ?_)
   refine nm_sub [(2, _), (3, _), (8, _)] ⟨rfl, rfl, rfl, trivial⟩ ?_
   refine nm_thn ?_
   refine ws_seqN LinkOf_n57 LinkOf_n58 rfl rfl rfl ?_
   have hrc9 : (((prOf s8.L).a) ++ [(⟨(-1), 0⟩ : Sp)]) ++ [(s8.X 2)] = (prOf (endL s8)).a := (by show _ = List.map (fun x : Sp × Sp => x.1) (endL s8); unfold endL; rw [List.map_append, List.map_append, hxz]; rfl)
   rw [hrc9] at S231; clear hrc9
   have hrc10 : (((prOf s8.L).b) ++ [(s8.X 1)]) ++ [(s8.X 3)] = (prOf (endL s8)).b := (by show _ = List.map (fun x : Sp × Sp => x.2) (endL s8); unfold endL; rw [List.map_append, List.map_append, hxz]; rfl)
   rw [hrc10] at S231; clear hrc10
   obtain ⟨hq1, hq2, hq3, hq4, hq5, hq6, hq7⟩ := wk_pre (s := s8) (ts := twP l l.length) (by rw [hs8, show i = l.length by omega])
   have hlE : (prOf (endL s8)).a.length ≤ 40 := by unfold prOf endL; simp; omega
   have hlE2 : (prOf (endL s8)).b.length ≤ 40 := by unfold prOf endL; simp; omega
   refine ws_region rfl ?_
   refine wlo 0 1 rfl rfl rfl (wo_run rfl rfl (run_loadN (us := [_, _]) rfl rfl Try.underlying59 rfl sz59 (S231.boxcs (i := 6) rfl ⟨rfl, rfl, trivial⟩)) ?_)
   refine wlm 1 2 rfl rfl rfl rfl rfl rfl rfl ?_
   obtain ⟨A1, c1, e1, hr1⟩ := S231.lendRd (i := 0) rfl (by show _ * 16 ≤ _; first | omega | (simp only [lens]; omega))
   obtain ⟨A2, c2, e2, hr2⟩ := S231.lendRd (i := 1) rfl (by show _ * 16 ≤ _; first | omega | (simp only [lens]; omega))
   have hcall11 := Walked_t (prOf (endL s8)) s8.n hr1 hr2 hq1 (by rw [hq2]; omega) (by rw [hq2]; exact hq3) (by rw [hq2]; exact hq4) hq5 hq6 S231.lend
   refine wlo 2 3 rfl rfl rfl (wo_ct rfl rfl rfl rfl rfl rfl rfl cf31 S231 (Ct.cast (by simp only [e1, e2]) (hcall11)) ?_)
   intro vw179 w179 M117 hle119 S232 hRw179; clear S231
   replace hl := hl.mono (Hp.un_mono hle119 S232.mx)
   rw [hq2, hq7] at hRw179
   obtain ⟨A3, c3, rfl, hr3⟩ := hRw179
   refine wlo 3 4 rfl rfl rfl (wo_storeB (i := 7) (us := [_, _]) (l' := [_, _]) (H' := [_, _, _, _, _, _, _, _]) rfl rfl S232 rfl rfl rfl rfl sz41 rfl rfl rfl rfl ?_)
   intro w180 S233; clear S232
   refine wl_end rfl ?_
   refine nm_sub [(2, _)] ⟨rfl, trivial⟩ ?_
   refine nm_thn ?_
   refine ws_ret hC [_] rfl rfl ⟨⟨_, rfl, loadVarN (us := [_, _]) Try.underlying41 rfl sz41 (S233.boxcs (i := 7) rfl ⟨rfl, rfl, trivial⟩)⟩, trivial⟩ ?_
   refine ⟨_, rfl, _, hle119, (S233.pick [] [] (by decide) trivial), ?_⟩
   exact ⟨_, _, rfl, hr3⟩
end Go.Proofs.Ytkgofmloleicgaa
namespace Go.Proofs.Ytkgofmloleicgaa
open Go.ChangeShapes Go.WideShapes Go.ChangeAt Go.RowKit
def IsE (xs : List Int) (u : Value) (M : Hp) : Prop := ∃ A c, u = .slice A xs.length c ∧ RdA cdInt M A c xs
noncomputable def ints_n0 : Code := Try.f14.body.getD .skip
noncomputable def ints_n1 : Code := cL ints_n0
noncomputable def ints_n2 : Code := cR ints_n0
noncomputable def ints_n3 : Code := cL ints_n2
noncomputable def ints_n4 : Code := cR ints_n2
set_option maxRecDepth 10000 in
theorem ints_t {w : World} {M : Hp} {X : Fr} (p : List Int) {pA : Option Addr} {pc : Nat} (hp : RdA cdInt (M.un X.h) pA pc p) (S : SH w M X []) : Ct Try.prog 14 [.slice pA p.length pc] w M X (IsE p) := by
 unfold Ct
 have rmhp : p.length * 8 ≤ 140737488355328 := hp.room
 refine calls_in (b := ints_n0) Try.func14 rfl Try.ntmps14 rfl (fun C hC => ?_)
 refine ws_sub [(0, _)] ⟨rfl, trivial⟩ ?_
 refine ws_seqN ints_n1 ints_n2 rfl rfl rfl ?_
 refine ws_region rfl ?_
 refine wla 0 1 rfl rfl rfl rfl rfl rfl rfl ?_
 refine wl_end rfl ?_
 refine nm_sub [(0, _)] ⟨rfl, trivial⟩ ?_
 refine nm_thn ?_
 refine ws_seqN ints_n3 ints_n4 rfl rfl rfl ?_
 refine ws_region rfl ?_
 refine wlm 0 1 rfl rfl rfl rfl rfl rfl rfl ?_
 have S1 := S.nilrow cdInt; clear S
 refine wlo 1 2 rfl rfl rfl (wo_appendM (C := cdInt) (i := 0) rfl rfl rfl rfl rfl rfl rfl rfl sl27 S1 rfl hp S1.um (by have h : _ * 8 ≤ _ := hp.room; show (0 + _) * 8 ≤ _; first | omega | (simp only [lens]; omega)) ?_)
 intro vr2 w1 S2; clear S1
 change SH _ _ _ [Rs.row cdInt vr2 p] at S2
 refine wla 2 3 rfl rfl rfl rfl rfl rfl rfl ?_
 refine wl_end rfl ?_
 refine nm_sub [(2, _)] ⟨rfl, trivial⟩ ?_
 refine nm_thn ?_
 obtain ⟨M1, hle1, S3, ⟨A1, c1, e1, hr1⟩⟩ := S2.pubrow (i := 0) (H' := [_]) rfl rfl (by show _ * 8 ≤ _; first | omega | (simp only [lens]; omega))
 clear S2; subst e1
 replace hp := hp.mono (Hp.un_mono hle1 S3.mx)
 refine ws_ret hC [_] rfl rfl ⟨rfl, trivial⟩ ?_
 refine ⟨_, rfl, _, hle1, (S3.pick [] [] (by decide) trivial), ?_⟩
 exact ⟨_, _, rfl, hr1⟩
noncomputable def SameDiagram_n0 : Code := Try.f18.body.getD .skip
noncomputable def SameDiagram_n1 : Code := cL SameDiagram_n0
noncomputable def SameDiagram_n2 : Code := cR SameDiagram_n0
noncomputable def SameDiagram_n3 : Code := cL SameDiagram_n2
noncomputable def SameDiagram_n4 : Code := cR SameDiagram_n2
noncomputable def SameDiagram_n5 : Code := cL SameDiagram_n3
noncomputable def SameDiagram_n6 : Code := cR SameDiagram_n3
noncomputable def SameDiagram_n7 : Code := cL SameDiagram_n6
noncomputable def SameDiagram_n8 : Code := cR SameDiagram_n6
noncomputable def SameDiagram_n9 : Code := cL SameDiagram_n4
noncomputable def SameDiagram_n10 : Code := cR SameDiagram_n4
noncomputable def SameDiagram_n11 : Code := cL SameDiagram_n9
noncomputable def SameDiagram_n12 : Code := cR SameDiagram_n9
noncomputable def SameDiagram_n13 : Code := cL SameDiagram_n12
noncomputable def SameDiagram_n14 : Code := cL SameDiagram_n13
noncomputable def SameDiagram_n15 : Code := cL SameDiagram_n14
noncomputable def SameDiagram_n16 : Code := cR SameDiagram_n14
noncomputable def SameDiagram_n17 : Code := cL SameDiagram_n15
noncomputable def SameDiagram_n18 : Code := cR SameDiagram_n15
noncomputable def SameDiagram_n19 : Code := cL SameDiagram_n18
noncomputable def SameDiagram_n20 : Code := cR SameDiagram_n18
noncomputable def SameDiagram_n21 : Code := cL SameDiagram_n16
noncomputable def SameDiagram_n22 : Code := cR SameDiagram_n16
noncomputable def SameDiagram_n23 : Code := cL SameDiagram_n21
noncomputable def SameDiagram_n24 : Code := cL SameDiagram_n23
noncomputable def SameDiagram_n25 : Code := cR SameDiagram_n23
noncomputable def SameDiagram_n26 : Code := cL SameDiagram_n25
noncomputable def SameDiagram_n27 : Code := cR SameDiagram_n25
noncomputable def SameDiagram_n28 : Code := cL SameDiagram_n10
noncomputable def SameDiagram_n29 : Code := cR SameDiagram_n10
set_option maxRecDepth 10000 in
theorem SameDiagram_q {w : World} {M : Hp} {X : Fr} (a : Dg) {acrsA : Option Addr} {acrsc : Nat} (b : Dg) {bcrsA : Option Addr} {bcrsc : Nat} (hacrs : RdA cdCr (M.un X.h) acrsA acrsc a.crs) (hbcrs : RdA cdCr (M.un X.h) bcrsA bcrsc b.crs) (he : a = b) (S : SH w M X []) : Cq Try.prog 18 [.agg [.slice acrsA a.crs.length acrsc, .int .i64 a.loops].toArray, .agg [.slice bcrsA b.crs.length bcrsc, .int .i64 b.loops].toArray] w M X (fun u => u = .bool true) := by
 unfold Cq
 have rmhacrs : a.crs.length * 40 ≤ 140737488355328 := hacrs.room
 have rmhbcrs : b.crs.length * 40 ≤ 140737488355328 := hbcrs.room
 have hle : a.crs.length = b.crs.length := by rw [he]
 have hlo : a.loops = b.loops := by rw [he]
 refine calls_in (b := SameDiagram_n0) Try.func18 rfl Try.ntmps18 rfl (fun C hC => ?_)
 refine ws_sub [(0, _), (1, _)] ⟨rfl, rfl, trivial⟩ ?_
 refine ws_seqN SameDiagram_n1 SameDiagram_n2 rfl rfl rfl ?_
 refine ws_region rfl ?_
 refine wlo 0 1 rfl rfl rfl (wo_box (l := [_, _]) rfl rfl rfl rfl rfl S ?_)
 intro gb1 w1 S1; clear S
 refine wlo 1 2 rfl rfl rfl (wo_box (l := [_, _]) rfl rfl rfl rfl rfl S1 ?_)
 intro gb2 w2 S2; clear S1
 refine wla 2 3 rfl rfl rfl rfl rfl rfl rfl ?_
 refine wl_end rfl ?_
 refine nm_sub [(2, _), (3, _)] ⟨rfl, rfl, trivial⟩ ?_
 refine nm_thn ?_
 refine ws_seqN SameDiagram_n3 SameDiagram_n4 rfl rfl rfl ?_
 refine ws_seqN SameDiagram_n5 SameDiagram_n6 rfl rfl rfl ?_
 refine ws_region rfl ?_
 refine wlo 0 1 rfl rfl rfl (wo_run rfl rfl (run_fieldAddr rfl rfl Try.underlying41 rfl (ce3) (nf3)) ?_)
 refine wlo 1 2 rfl rfl rfl (wo_run rfl rfl (run_load1 rfl rfl Try.underlying3 rfl (S2.boxc (i := 1) rfl rfl)) ?_)
 refine wlo 2 3 rfl rfl rfl (wo_run rfl rfl (run_fieldAddr rfl rfl Try.underlying41 rfl (ce3) (nf3)) ?_)
 refine wlo 3 4 rfl rfl rfl (wo_run rfl rfl (run_load1 rfl rfl Try.underlying3 rfl (S2.boxc (i := 0) rfl rfl)) ?_)
 refine wlo 4 5 rfl rfl rfl (wo_run rfl rfl (run_neq rfl rfl rfl) ?_)
 refine wlm 5 6 rfl rfl rfl rfl rfl rfl rfl ?_
 refine wl_split (t := 11) rfl (fun hg11 => ?_) (fun hg11 => ?_)
 ·replace hg11 := of_decide_eq_true hg11
  exfalso; omega
 ·replace hg11 := of_decide_eq_false hg11
  refine wl_opG (k := 6) (k' := 7) rfl rfl ⟨_, _, _, rfl, rfl, rfl, rfl⟩ rfl (wo_run rfl rfl (run_fieldAddr rfl rfl Try.underlying41 rfl (ce39) (nf39)) ?_)
  refine wl_opG (k := 7) (k' := 8) rfl rfl ⟨_, _, _, rfl, rfl, rfl, rfl⟩ rfl (wo_run rfl rfl (run_load1 rfl rfl Try.underlying39 rfl (S2.boxc (i := 1) rfl rfl)) ?_)
  refine wl_opG (k := 8) (k' := 9) rfl rfl ⟨_, _, _, rfl, rfl, rfl, rfl⟩ rfl (wo_run rfl rfl (run_len rfl rfl rfl rfl rfl rfl Try.underlying39) ?_)
  refine wl_opG (k := 9) (k' := 10) rfl rfl ⟨_, _, _, rfl, rfl, rfl, rfl⟩ rfl (wo_run rfl rfl (run_fieldAddr rfl rfl Try.underlying41 rfl (ce39) (nf39)) ?_)
  refine wl_opG (k := 10) (k' := 11) rfl rfl ⟨_, _, _, rfl, rfl, rfl, rfl⟩ rfl (wo_run rfl rfl (run_load1 rfl rfl Try.underlying39 rfl (S2.boxc (i := 0) rfl rfl)) ?_)
  refine wl_opG (k := 11) (k' := 12) rfl rfl ⟨_, _, _, rfl, rfl, rfl, rfl⟩ rfl (wo_run rfl rfl (run_len rfl rfl rfl rfl rfl rfl Try.underlying39) ?_)
  refine wl_opG (k := 12) (k' := 13) rfl rfl ⟨_, _, _, rfl, rfl, rfl, rfl⟩ rfl (wo_run rfl rfl (run_neq rfl rfl rfl) ?_)
  refine wlo 13 14 rfl rfl rfl (wo_run rfl rfl (run_pickF rfl rfl rfl) ?_)
  refine wl_end rfl ?_
  refine nm_sub [(2, _), (3, _), (19, _)] ⟨rfl, rfl, rfl, trivial⟩ ?_
  refine nm_thn ?_
  refine ws_condN SameDiagram_n7 SameDiagram_n8 rfl rfl rfl rfl (fun hb19 => ?_) (fun hb19 => ?_)
  ·replace hb19 := of_decide_eq_true hb19
   exfalso; omega
  ·replace hb19 := of_decide_eq_false hb19
   refine ws_skip rfl ?_
   refine nm_sub [(2, _), (3, _)] ⟨rfl, rfl, trivial⟩ ?_
   refine nm_thn ?_
   refine ws_seqN SameDiagram_n9 SameDiagram_n10 rfl rfl rfl ?_
   refine ws_seqN SameDiagram_n11 SameDiagram_n12 rfl rfl rfl ?_
   refine ws_region rfl ?_
   refine wla 0 1 rfl rfl rfl rfl rfl rfl rfl ?_
   refine wl_end rfl ?_
   refine nm_thn ?_
   refine ws_blockN SameDiagram_n13 0 rfl rfl rfl ?_
   refine ws_loopE (fun mx_ ax_ wx_ => ∃ (k : Nat), mx_ = a.crs.length - k ∧ Env 38 [(2, .pointer (some ⟨gb1, 0, none⟩)), (3, .pointer (some ⟨gb2, 0, none⟩)), (5, .int .i64 (k : Int))] ax_ ∧ SH wx_ M X [Rs.box gb2 41 [.slice bcrsA b.crs.length bcrsc, .int .i64 b.loops], Rs.box gb1 41 [.slice acrsA a.crs.length acrsc, .int .i64 a.loops]] ∧ k ≤ a.crs.length) rfl ?_ ?_
   ·intro ax_ hax_
    refine ⟨_, ⟨0, rfl, hax_.sub ⟨rfl, rfl, rfl, trivial⟩, S2.pick [0, 1] [_, _] (by decide) ⟨rfl, rfl, trivial⟩, ?hq1f0⟩⟩
    case hq1f0 => omega
   ·rintro m1 a1 w3 ⟨k, rfl, he1, S3, hk⟩
    clear S2
    refine ws_in he1 (c := SameDiagram_n14) rfl ?_
    clear he1 a1
    refine ws_seqN SameDiagram_n15 SameDiagram_n16 rfl rfl rfl ?_
    refine ws_seqN SameDiagram_n17 SameDiagram_n18 rfl rfl rfl ?_
    refine ws_region rfl ?_
    refine wlm 0 1 rfl rfl rfl rfl rfl rfl rfl ?_
    refine wlo 1 2 rfl rfl rfl (wo_run rfl rfl (run_fieldAddr rfl rfl Try.underlying41 rfl (ce39) (nf39)) ?_)
    refine wlo 2 3 rfl rfl rfl (wo_run rfl rfl (run_load1 rfl rfl Try.underlying39 rfl (S3.boxc (i := 1) rfl rfl)) ?_)
    refine wlo 3 4 rfl rfl rfl (wo_run rfl rfl (run_len rfl rfl rfl rfl rfl rfl Try.underlying39) ?_)
    refine wlo 4 5 rfl rfl rfl (wo_run rfl rfl (run_lss rfl rfl rfl) ?_)
    refine wl_end rfl ?_
    refine nm_sub [(2, _), (3, _), (5, _), (24, _)] ⟨rfl, rfl, rfl, rfl, trivial⟩ ?_
    refine nm_thn ?_
    refine ws_condN SameDiagram_n19 SameDiagram_n20 rfl rfl rfl rfl (fun hb24 => ?_) (fun hb24 => ?_)
    ·replace hb24 := of_decide_eq_true hb24
     refine ws_skip rfl ?_
     refine nm_sub [(2, _), (3, _), (5, _)] ⟨rfl, rfl, rfl, trivial⟩ ?_
     refine nm_thn ?_
     refine ws_seqN SameDiagram_n21 SameDiagram_n22 rfl rfl rfl ?_
     refine ws_blockN SameDiagram_n23 1 rfl rfl rfl ?_
     refine ws_seqN SameDiagram_n24 SameDiagram_n25 rfl rfl rfl ?_
     refine ws_draw rfl (by kernel_rfl) S3 11 rfl ?_
     clear S3
     refine wa_takeP (i := 0) (d := 27) 10 rfl (by kernel_rfl) (by kernel_rfl) (by kernel_rfl) rfl rfl rfl (fun w4 => run_fieldAddr rfl rfl Try.underlying41 rfl (ce39) (nf39)) ?_
     refine wa_take (i := 1) (d := 28) 9 rfl (by kernel_rfl) (by kernel_rfl) (by kernel_rfl) rfl rfl rfl (fun M2 N2 w5 hle3 S5 => .inl (run_load1 rfl rfl Try.underlying39 rfl (S5.suf.boxc (i := 1) rfl rfl))) ?_
     refine wa_takeP (i := 2) (d := 29) 8 rfl (by kernel_rfl) (by kernel_rfl) (by kernel_rfl) rfl rfl rfl (fun w6 => run_move rfl rfl) ?_
     refine wa_take (i := 3) (d := 30) 7 rfl (by kernel_rfl) (by kernel_rfl) (by kernel_rfl) rfl rfl rfl (fun M4 N4 w7 hle5 S7 => .inl (run_indexM (C := cdCr) k rfl rfl rfl sl39 (by first | rfl | omega) (hacrs.mono (Hp.un_mono hle5 S7.mx)) (by first | omega | (simp only [lens]; omega)))) ?_
     refine wa_take (i := 4) (d := 31) 6 rfl (by kernel_rfl) (by kernel_rfl) (by kernel_rfl) rfl rfl rfl (fun M5 N5 w8 hle6 S8 => .inl (run_loadN (us := [_, _, _, _, _]) rfl rfl Try.underlying56 rfl sz56 ((hacrs.mono (Hp.un_mono hle6 S8.mx)).cellsAt S8.um (e := k) (by first | omega | (simp only [lens]; omega)) (j := 0) ⟨rfl, rfl, rfl, rfl, rfl, trivial⟩))) ?_
     refine wa_takeP (i := 5) (d := 32) 5 rfl (by kernel_rfl) (by kernel_rfl) (by kernel_rfl) rfl rfl rfl (fun w9 => run_fieldAddr rfl rfl Try.underlying41 rfl (ce39) (nf39)) ?_
     refine wa_take (i := 6) (d := 33) 4 rfl (by kernel_rfl) (by kernel_rfl) (by kernel_rfl) rfl rfl rfl (fun M7 N7 w10 hle8 S10 => .inl (run_load1 rfl rfl Try.underlying39 rfl (S10.suf.boxc (i := 0) rfl rfl))) ?_
     refine wa_takeP (i := 7) (d := 34) 3 rfl (by kernel_rfl) (by kernel_rfl) (by kernel_rfl) rfl rfl rfl (fun w11 => run_move rfl rfl) ?_
     refine wa_take (i := 8) (d := 35) 2 rfl (by kernel_rfl) (by kernel_rfl) (by kernel_rfl) rfl rfl rfl (fun M9 N9 w12 hle10 S12 => .inl (run_indexM (C := cdCr) k rfl rfl rfl sl39 (by first | rfl | omega) (hbcrs.mono (Hp.un_mono hle10 S12.mx)) (by first | omega | (simp only [lens]; omega)))) ?_
     refine wa_take (i := 9) (d := 36) 1 rfl (by kernel_rfl) (by kernel_rfl) (by kernel_rfl) rfl rfl rfl (fun M10 N10 w13 hle11 S13 => .inl (run_loadN (us := [_, _, _, _, _]) rfl rfl Try.underlying56 rfl sz56 ((hbcrs.mono (Hp.un_mono hle11 S13.mx)).cellsAt S13.um (e := k) (by first | omega | (simp only [lens]; omega)) (j := 0) ⟨rfl, rfl, rfl, rfl, rfl, trivial⟩))) ?_
     refine wa_takeP (i := 10) (d := 37) 0 rfl (by kernel_rfl) (by kernel_rfl) (by kernel_rfl) rfl rfl rfl (fun w14 => run_neSt (Q := ((ga a.crs k).a) = ((ga b.crs k).a) ∧ ((ga a.crs k).b) = ((ga b.crs k).b) ∧ ((ga a.crs k).c) = ((ga b.crs k).c) ∧ ((ga a.crs k).d) = ((ga b.crs k).d) ∧ ((ga a.crs k).plus) = ((ga b.crs k).plus)) rfl rfl rfl se56 ⟨_, _, _, _, rfl, rfl, ⟨_, _, _, _, rfl, rfl, ⟨_, _, _, _, rfl, rfl, ⟨_, _, _, _, rfl, rfl, ⟨_, _, rfl, rfl, rfl⟩, rfl⟩, rfl⟩, rfl⟩, rfl⟩) ?_
     refine wa_end (by kernel_rfl) (fun w15 S15 => ?_)
     refine nm_sub [(2, _), (3, _), (5, _), (37, _)] ⟨rfl, rfl, rfl, rfl, trivial⟩ ?_
     refine nm_thn ?_
     refine ws_condN SameDiagram_n26 SameDiagram_n27 rfl rfl rfl rfl (fun hb37 => ?_) (fun hb37 => ?_)
     ·replace hb37 := of_decide_eq_true hb37
      exfalso; exact hb37 (by rw [he]; simp)
     ·replace hb37 := of_decide_eq_false hb37
      refine ws_skip rfl ?_
      refine nm_blk ?_
      refine nm_sub [(2, _), (3, _), (5, _)] ⟨rfl, rfl, rfl, trivial⟩ ?_
      refine nm_thn ?_
      refine ws_region rfl ?_
      refine wlm 0 1 rfl rfl rfl rfl rfl rfl rfl ?_
      refine wlo 1 2 rfl rfl rfl (wo_run rfl rfl (run_add rfl rfl rfl (by first | omega | (simp only [lens]; omega))) ?_)
      refine wla 2 3 rfl rfl rfl rfl rfl rfl rfl ?_
      refine wl_end rfl ?_
      refine nm_lp ?_
      intro ax_ hax_
      refine ⟨_, ?hq2m, ⟨k + 1, rfl, hax_.sub ⟨rfl, rfl, rfl, trivial⟩, S15.pick [0, 1] [_, _] (by decide) ⟨rfl, rfl, trivial⟩, ?hq2f0⟩⟩
      case hq2f0 => omega
      case hq2m => omega
    ·replace hb24 := of_decide_eq_false hb24
     refine ws_exit rfl rfl ?_
     refine nm_sub [] trivial ?_
     refine nm_thn ?_
     refine ws_seqN SameDiagram_n28 SameDiagram_n29 rfl rfl rfl ?_
     refine ws_region rfl ?_
     refine wla 0 1 rfl rfl rfl rfl rfl rfl rfl ?_
     refine wl_end rfl ?_
     refine nm_thn ?_
     refine ws_ret hC [_] rfl rfl ⟨rfl, trivial⟩ ?_
     exact ⟨_, rfl, (S3.pick [] [] (by decide) trivial), rfl⟩
noncomputable def TangleLinks_n0 : Code := Try.f6.body.getD .skip
noncomputable def TangleLinks_n1 : Code := cL TangleLinks_n0
noncomputable def TangleLinks_n2 : Code := cR TangleLinks_n0
noncomputable def TangleLinks_n3 : Code := cL TangleLinks_n2
noncomputable def TangleLinks_n4 : Code := cR TangleLinks_n2
noncomputable def TangleLinks_n5 : Code := cL TangleLinks_n4
noncomputable def TangleLinks_n6 : Code := cR TangleLinks_n4
noncomputable def TangleLinks_n7 : Code := cL TangleLinks_n6
noncomputable def TangleLinks_n8 : Code := cR TangleLinks_n6
noncomputable def TangleLinks_n9 : Code := cL TangleLinks_n7
noncomputable def TangleLinks_n10 : Code := cR TangleLinks_n7
noncomputable def TangleLinks_n11 : Code := cL TangleLinks_n10
noncomputable def TangleLinks_n12 : Code := cR TangleLinks_n10
noncomputable def TangleLinks_n13 : Code := cL TangleLinks_n11
noncomputable def TangleLinks_n14 : Code := cR TangleLinks_n11
noncomputable def TangleLinks_n15 : Code := cL TangleLinks_n8
noncomputable def TangleLinks_n16 : Code := cR TangleLinks_n8
set_option maxRecDepth 10000 in
theorem TangleLinks_t {w : World} {M : Hp} {X : Fr} (l : List Int) {lA : Option Addr} {lc : Nat} (hl : RdA cdInt M lA lc l) (S : SH w M X []) : Ct Try.prog 6 [.slice lA l.length lc] w M X (fun u _ => u = .bool true) := by
 unfold Ct
 have rmhl : l.length * 8 ≤ 140737488355328 := hl.room
 refine calls_in (b := TangleLinks_n0) Try.func6 rfl Try.ntmps6 rfl (fun C hC => ?_)
 refine ws_sub [(0, _)] ⟨rfl, trivial⟩ ?_
 refine ws_seqN TangleLinks_n1 TangleLinks_n2 rfl rfl rfl ?_
 refine ws_region rfl ?_
 refine wla 0 1 rfl rfl rfl rfl rfl rfl rfl ?_
 refine wl_end rfl ?_
 refine nm_sub [(0, _)] ⟨rfl, trivial⟩ ?_
 refine nm_thn ?_
 refine ws_seqN TangleLinks_n3 TangleLinks_n4 rfl rfl rfl ?_
 refine ws_region rfl ?_
 refine wlm 0 1 rfl rfl rfl rfl rfl rfl rfl ?_
 refine wlo 1 2 rfl rfl rfl (wo_ct rfl rfl rfl rfl rfl rfl rfl cf14 S (ints_t l (hl.mono (Hp.le_un _ _)) S.lend) ?_)
 intro vw1 w1 M1 hle1 S1 hRw1; clear S
 replace hl := hl.mono hle1
 obtain ⟨A1, c1, rfl, hr1⟩ := hRw1
 refine wlo 2 3 rfl rfl rfl (wo_ct rfl rfl rfl rfl rfl rfl rfl cf17 S1 (Link_t l (hr1.mono (Hp.le_un _ _)) S1.lend) ?_)
 intro vw2 w2 M2 hle2 S2 hRw2; clear S1
 replace hl := hl.mono hle2
 replace hr1 := hr1.mono hle2
 obtain ⟨A2, c2, rfl, hr2⟩ := hRw2
 refine wlm 3 4 rfl rfl rfl rfl rfl rfl rfl ?_
 refine wlo 4 5 rfl rfl rfl (wo_run rfl rfl (run_extract rfl rfl rfl) ?_)
 refine wlo 5 6 rfl rfl rfl (wo_run rfl rfl (run_extract rfl rfl rfl) ?_)
 refine wlo 6 7 rfl rfl rfl (wo_alloc (l := [_, _]) rfl rfl rfl zr41 rfl S2 ?_)
 intro gb1 w3 S3; clear S2
 refine wlo 7 8 rfl rfl rfl (wo_storeB (i := 0) (us := [_, _]) (l' := [_, _]) (H' := [_]) rfl rfl S3 rfl rfl rfl rfl sz41 rfl rfl rfl rfl ?_)
 intro w4 S4; clear S3
 refine wla 8 9 rfl rfl rfl rfl rfl rfl rfl ?_
 refine wl_end rfl ?_
 refine nm_sub [(0, _), (3, _), (4, _)] ⟨rfl, rfl, rfl, trivial⟩ ?_
 refine nm_thn ?_
 refine ws_seqN TangleLinks_n5 TangleLinks_n6 rfl rfl rfl ?_
 refine ws_region rfl ?_
 refine wlm 0 1 rfl rfl rfl rfl rfl rfl rfl ?_
 refine wlo 1 2 rfl rfl rfl (wo_cq rfl rfl rfl rfl rfl rfl rfl cf15 S4 (ListMay_q l (hl.mono (Hp.le_un _ _)) S4.lend) ?_)
 rintro _ w5 S5 rfl; clear S4
 refine wla 2 3 rfl rfl rfl rfl rfl rfl rfl ?_
 refine wl_end rfl ?_
 refine nm_sub [(0, _), (3, _), (4, _), (5, _)] ⟨rfl, rfl, rfl, rfl, trivial⟩ ?_
 refine nm_thn ?_
 refine ws_seqN TangleLinks_n7 TangleLinks_n8 rfl rfl rfl ?_
 refine ws_seqN TangleLinks_n9 TangleLinks_n10 rfl rfl rfl ?_
 refine ws_region rfl ?_
 refine wlm 0 1 rfl rfl rfl rfl rfl rfl rfl ?_
 refine wlo 1 2 rfl rfl rfl (wo_run rfl rfl (run_neq rfl rfl rfl) ?_)
 refine wl_end rfl ?_
 refine nm_sub [(0, _), (3, _), (4, _), (5, _), (15, _)] ⟨rfl, rfl, rfl, rfl, rfl, trivial⟩ ?_
 refine nm_thn ?_
 refine ws_condN TangleLinks_n11 TangleLinks_n12 rfl rfl rfl rfl (fun hb15 => ?_) (fun hb15 => ?_)
 ·replace hb15 := of_decide_eq_true hb15
  have e1 : linkR l = (⟨[], 0⟩, listE l) := by unfold linkR; rw [if_pos hb15]
  refine ws_seqN TangleLinks_n13 TangleLinks_n14 rfl rfl rfl ?_
  refine ws_region rfl ?_
  refine wlm 0 1 rfl rfl rfl rfl rfl rfl rfl ?_
  refine wlm 1 2 rfl rfl rfl rfl rfl rfl rfl ?_
  refine wlo 2 3 rfl rfl rfl (wo_run rfl rfl (run_eql rfl rfl rfl) ?_)
  refine wlm 3 4 rfl rfl rfl rfl rfl rfl rfl ?_
  refine wl_split (t := 19) rfl (fun hg19 => ?_) (fun hg19 => ?_)
  ·replace hg19 := of_decide_eq_true hg19
   refine wl_opG (k := 4) (k' := 5) rfl rfl ⟨_, _, _, rfl, rfl, rfl, rfl⟩ rfl (wo_run rfl rfl (run_fieldAddr rfl rfl Try.underlying41 rfl (ce39) (nf39)) ?_)
   refine wl_opG (k := 5) (k' := 6) rfl rfl ⟨_, _, _, rfl, rfl, rfl, rfl⟩ rfl (wo_run rfl rfl (run_load1 rfl rfl Try.underlying39 rfl (S5.boxc (i := 0) rfl rfl)) ?_)
   refine wl_opG (k := 6) (k' := 7) rfl rfl ⟨_, _, _, rfl, rfl, rfl, rfl⟩ rfl (wo_run rfl rfl (run_len rfl rfl rfl rfl rfl rfl Try.underlying39) ?_)
   refine wl_opG (k := 7) (k' := 8) rfl rfl ⟨_, _, _, rfl, rfl, rfl, rfl⟩ rfl (wo_run rfl rfl (run_eql rfl rfl rfl) ?_)
   refine wlo 8 9 rfl rfl rfl (wo_run rfl rfl (run_pickT rfl rfl rfl) ?_)
   refine wlm 9 10 rfl rfl rfl rfl rfl rfl rfl ?_
   refine wl_split (t := 25) rfl (fun hg25 => ?_) (fun hg25 => ?_)
   ·replace hg25 := of_decide_eq_true hg25
    refine wl_opG (k := 10) (k' := 11) rfl rfl ⟨_, _, _, rfl, rfl, rfl, rfl⟩ rfl (wo_run rfl rfl (run_fieldAddr rfl rfl Try.underlying41 rfl (ce3) (nf3)) ?_)
    refine wl_opG (k := 11) (k' := 12) rfl rfl ⟨_, _, _, rfl, rfl, rfl, rfl⟩ rfl (wo_run rfl rfl (run_load1 rfl rfl Try.underlying3 rfl (S5.boxc (i := 0) rfl rfl)) ?_)
    refine wl_opG (k := 12) (k' := 13) rfl rfl ⟨_, _, _, rfl, rfl, rfl, rfl⟩ rfl (wo_run rfl rfl (run_eql rfl rfl rfl) ?_)
    refine wlo 13 14 rfl rfl rfl (wo_run rfl rfl (run_pickT rfl rfl rfl) ?_)
    refine wla 14 15 rfl rfl rfl rfl rfl rfl rfl ?_
    refine wl_end rfl ?_
    refine nm_sub [(2, _)] ⟨rfl, trivial⟩ ?_
    refine nm_thn ?_
    refine ws_ret hC [_] rfl rfl ⟨rfl, trivial⟩ ?_
    refine ⟨_, rfl, _, hle1.trans hle2, (S5.pick [] [] (by decide) trivial), ?_⟩
    show Value.bool _ = _
    refine congrArg Value.bool ?_
    rw [e1]; rfl
   ·replace hg25 := of_decide_eq_false hg25
    exfalso; exact hg25 (by rw [e1]; rfl)
  ·replace hg19 := of_decide_eq_false hg19
   exfalso; exact hg19 (by rw [e1])
 ·replace hb15 := of_decide_eq_false hb15
  have e1 : linkR l = (dgL (twP l l.length), 0) := by unfold linkR; rw [if_neg (by omega)]
  refine ws_skip rfl ?_
  refine nm_sub [(0, _), (3, _), (4, _)] ⟨rfl, rfl, rfl, trivial⟩ ?_
  refine nm_thn ?_
  refine ws_seqN TangleLinks_n15 TangleLinks_n16 rfl rfl rfl ?_
  refine ws_draw rfl (by kernel_rfl) S5 9 rfl ?_
  clear S5
  refine wa_takeP (i := 0) (d := 30) 8 rfl (by kernel_rfl) (by kernel_rfl) (by kernel_rfl) rfl rfl rfl (fun w6 => run_move rfl rfl) ?_
  refine wa_takeP (i := 1) (d := 31) 7 rfl (by kernel_rfl) (by kernel_rfl) (by kernel_rfl) rfl rfl rfl (fun w7 => run_eql rfl rfl rfl) ?_
  refine wa_takeP (i := 2) (d := 32) 6 rfl (by kernel_rfl) (by kernel_rfl) (by kernel_rfl) rfl rfl rfl (fun w8 => run_move rfl rfl) ?_
  refine wa_split (t := 32) rfl (fun hg32 => ?_) (fun hg32 => ?_)
  ·replace hg32 := of_decide_eq_true hg32
   refine wa_take (i := 3) (d := 33) 5 rfl (by kernel_rfl) (by kernel_rfl) (by kernel_rfl) ⟨_, _, _, rfl, rfl, rfl, rfl⟩ rfl rfl (fun M6 N4 w9 hle6 S9 => .inl (run_loadN (us := [_, _]) rfl rfl Try.underlying41 rfl sz41 (S9.suf.boxcs (i := 0) rfl ⟨rfl, rfl, trivial⟩))) ?_
   refine wa_takeP (i := 4) (d := 34) 4 rfl (by kernel_rfl) (by kernel_rfl) (by kernel_rfl) ⟨_, _, _, rfl, rfl, rfl, rfl⟩ rfl rfl (fun w10 => run_move rfl rfl) ?_
   refine wa_only (i := 5) 3 rfl (by kernel_rfl) ⟨_, _, _, rfl, rfl, rfl, rfl⟩ rfl (fun w12 S12 => ?_)
   refine (wo_ct rfl rfl rfl rfl rfl rfl rfl cf19 S12 (LinkOf_t l (hl.mono (Hp.le_un _ _)) ((by omega)) S12.lend) ?_)
   intro vw13 w13 M9 hle9 S13 hRw13; clear S12
   replace hl := hl.mono hle9
   replace hr1 := hr1.mono hle9
   replace hr2 := hr2.mono hle9
   obtain ⟨A3, c3, rfl, hr3⟩ := hRw13
   refine LeftW.grow [] (hle9) S13 ?_; clear S13
   change WA _ _ _ _ _ _ _ _ _ _ _ _ [_]
   refine wa_base ?_
   refine wa_take (i := 6) (d := 36) 2 rfl (by kernel_rfl) (by kernel_rfl) (by kernel_rfl) ⟨_, _, _, rfl, rfl, rfl, rfl⟩ rfl rfl (fun M10 N7 w14 hle10 S14 => yield_cq rfl rfl rfl rfl rfl cf18 S14 (SameDiagram_q ((linkR l).1) (dgL (twP l l.length)) ((hr2.mono hle10).mono (Hp.le_un _ _)) ((hr3.mono hle10).mono (Hp.le_un _ _)) ((by rw [e1])) S14.lend)) ?_
   refine wa_takeP (i := 7) (d := 37) 1 rfl (by kernel_rfl) (by kernel_rfl) (by kernel_rfl) rfl rfl rfl (fun w15 => run_pickT rfl rfl rfl) ?_
   refine wa_takeP (i := 8) (d := 2) 0 rfl (by kernel_rfl) (by kernel_rfl) (by kernel_rfl) rfl rfl rfl (fun w16 => run_assign rfl rfl) ?_
   refine wa_end (by kernel_rfl) (fun w17 S17 => ?_)
   refine nm_sub [(2, _)] ⟨rfl, trivial⟩ ?_
   refine nm_thn ?_
   refine ws_ret hC [_] rfl rfl ⟨rfl, trivial⟩ ?_
   refine ⟨_, rfl, _, (hle1.trans hle2).trans hle9, (S17.pick [] [] (by decide) trivial), ?_⟩
   show Value.bool _ = _
   rfl
  ·replace hg32 := of_decide_eq_false hg32
   exfalso; exact hg32 (by rw [e1])
end Go.Proofs.Ytkgofmloleicgaa
namespace Go.Proofs.Ytkgofmloleicgaa
open Go.ChangeShapes Go.WideShapes Go.ChangeAt Go.RowKit Go.Joins Go.Deep
theorem weightsAll_mem {H : Type} {P : Program} {e : TypeId} {d : DataW H} {n : Nat} : ∀ {ds : List (DataW H)}, d ∈ ds → n ∈ d.weights P e → n ∈ DataW.weightsAll P e ds
  | d0 :: ds, hd, hn => by
    simp only [DataW.weightsAll, List.mem_append]
    rcases List.mem_cons.1 hd with rfl | hd
    · exact .inl hn
    · exact .inr (weightsAll_mem hd hn)
def Light {H : Type} (P : Program) (T : TypeId) (d : DataW H) : Prop := ∀ n ∈ d.weights P T, n ≤ reachBytes
/-- What is read of type T is one x of C, of which ok is true. -/
def Rdr {H : Type} (P : Program) (w : World) (enc : TypeId × Value → H) (T : TypeId) {α : Type} (C : Cd α) (ok : α → Prop) : Prop :=
  ∀ n cs d pl, DataW.trod enc P w 0 (fun _ => true) true n T cs = some (d, pl) → Light P T d → ∃ x, (∀ j u, j < C.k → (C.f x)[j]? = some u → cs[j]? = some u) ∧ ok x
def wfI (x : Int) : Prop := -9223372036854775808 ≤ x ∧ x ≤ 9223372036854775807
theorem wfI_of {x : Int} (h : (Lit.int .i64 x).wf = true) : wfI x := by
  simpa [Lit.wf, IntKind.min, IntKind.max, IntKind.signed, IntKind.bits, wfI] using h
def SlOk {α : Type} (C : Cd α) (w : World) (ok : α → Prop) (s : SlV) : Prop := ∃ ys : List α, s.n = ys.length ∧ RdA C (hp w) s.A s.c ys ∧ ∀ y ∈ ys, ok y
section
variable {H : Type} {enc : TypeId × Value → H} {P : Program} {w : World} {T : TypeId}
theorem rdr_int (hu : P.underlying T = some (.int .i64)) : Rdr P w enc T cdInt wfI := fun n cs d pl h _ => by
  obtain ⟨a, rfl, _, hw⟩ := DataW.trod_int hu h
  exact ⟨a, fun j u _ hu => hu, wfI_of hw⟩
theorem rdr_slice {α : Type} [Inhabited α] {C : Cd α} {ok : α → Prop} (hu : P.underlying T = some (.slice C.E)) (hk : P.cellsOf C.E = C.k) (hb : P.bytesOf C.E = C.u8) (hk0 : 0 < C.k) (hr : Rdr P w enc C.E C ok) : Rdr P w enc T (cdV T) (SlOk C w ok) := fun n cs d pl h hl => by
  rcases open_slice hu h with ⟨rfl, hx⟩ | ⟨a, len, cap, m, n', D, Pl, rfl, _, hle, hm, hmm, hx, hi⟩
  · exact ⟨⟨none, 0, 0⟩, fun j u _ hu => hu, [], rfl, RdA.nil_, fun y hy => by cases hy⟩
  · simp only [if_true] at hmm
    subst hmm
    simp only [Prod.mk.injEq] at hx
    obtain ⟨rfl, _⟩ := hx
    have hwt : ∀ n ∈ (len + (m - len)) * P.bytesOf C.E :: (DataW.weightsAll P C.E ((List.range len).map D) ++ DataW.weightsAll P C.E ((List.range (m - len)).map fun j => D (len + j))), n ≤ reachBytes := by
      have := hl
      unfold Light at this
      simp only [DataW.weights, hu, List.length_map, List.length_range] at this
      exact this
    have hsz := hwt _ (List.mem_cons_self ..)
    rw [hb] at hsz
    simp only [reachBytes] at hsz
    have hL : len * C.u8 ≤ 140737488355328 := Nat.le_trans (Nat.mul_le_mul_right _ (show len ≤ len + (m - len) by omega)) (by omega)
    obtain ⟨F, hF⟩ := choose_lt (α := α) (n := len) (p := fun i x => (∀ j u, j < C.k → (C.f x)[j]? = some u → w.cell? (a.add (i * C.k + j)) = some u) ∧ ok x) (fun i hil => by
      obtain ⟨cs', hc, ht⟩ := hi i (by omega)
      rw [hk] at hc
      obtain ⟨x, hx, hok⟩ := hr n' cs' (D i) (Pl i) ht (fun q hq => hwt q (List.mem_cons_of_mem _ (List.mem_append_left _ (weightsAll_mem (List.mem_map.2 ⟨i, List.mem_range.2 hil, rfl⟩) hq))))
      obtain ⟨_, hcl, hat⟩ := World.cells?_some hc
      refine ⟨x, fun j u hj hu => ?_, hok⟩
      rw [← Go.Deep.add_add, hat j hj]
      exact hx j u hj hu)
    have hlen : ((List.range len).map F).length = len := by simp
    refine ⟨⟨some a, len, m⟩, fun j u _ hu => hu, (List.range len).map F, by rw [hlen], ⟨by rw [hlen]; exact hle, by rw [hlen]; exact hL, fun h0 => ?_⟩, fun y hy => ?_⟩
    · rw [hlen] at h0
      have hcell : ∀ j u, (((List.range len).map F).flatMap C.f)[j]? = some u → w.cell? (a.add j) = some u := fun j u hju => by
        have hjl : j < len * C.k := by
          have := (List.getElem?_eq_some_iff.1 hju).1
          rwa [flat_len C.hf, hlen] at this
        have h1 : j / C.k < len := (Nat.div_lt_iff_lt_mul hk0).2 hjl
        have h2 : j % C.k < C.k := Nat.mod_lt _ hk0
        have em : j / C.k * C.k + j % C.k = j := by rw [Nat.mul_comm]; exact Nat.div_add_mod j C.k
        have g1 := flat_get C.hf (xs := (List.range len).map F) (i := j / C.k) (by rw [hlen]; exact h1) h2
        rw [em, hju] at g1
        have := (hF (j / C.k) h1).1 (j % C.k) u h2 (by rw [g1]; simp)
        rwa [em] at this
      have hlen0 : 0 < (((List.range len).map F).flatMap C.f).length := by rw [flat_len C.hf, hlen]; exact Nat.mul_pos h0 hk0
      have hc0 := hcell 0 _ (List.getElem?_eq_getElem hlen0)
      obtain ⟨b, off, spot⟩ := a
      have hspot : spot = none := by simpa [Addr.add] using World.cell?_spot hc0
      subst hspot
      refine ⟨rfl, ?_⟩
      have hadd : ∀ j, (⟨b, off, none⟩ : Addr).add j = ⟨b, off + j, none⟩ := fun j => by
        unfold Addr.add
        split
        · rename_i e; rw [e]; rfl
        · rfl
      rw [hadd] at hc0
      unfold World.cell? at hc0
      split at hc0
      · rename_i cs T' fz hb'
        refine ⟨cs, T', fz, hb', fun j u hju => ?_⟩
        have := hcell j u hju
        rw [hadd, cell_of_row w b _ cs T' fz hb'] at this
        exact this
      · cases hc0
    · obtain ⟨i, hi', rfl⟩ := List.mem_map.1 hy
      exact (hF i (List.mem_range.1 hi')).2
theorem open_sl {α : Type} [Inhabited α] {C : Cd α} {ok : α → Prop} {v : Value} {d : DataW H} {p : List MemPlace} (hu : P.underlying T = some (.slice C.E)) (hk : P.cellsOf C.E = C.k) (hb : P.bytesOf C.E = C.u8) (hk0 : 0 < C.k) (hr : Rdr P w enc C.E C ok)
    {b0 : Nat} (hv : Value.okWide P w .any b0 T v) (h : DataW.Trod enc P w 0 (fun _ => true) true T v d p) {ts : List TypeId} {ds : List (DataW H)} (hsz : (DataW.weightsEach P ts ds).all (· ≤ reachBytes) = true) {j : Nat} (hj : ts[j]? = some T) (hd : ds[j]? = some d) :
    ∃ A c xs, v = .slice A xs.length c ∧ RdA C (hp w) A c xs ∧ ∀ x ∈ xs, ok x := by
  obtain ⟨a0, len, cap, rfl⟩ := okWide_slice hu hv
  obtain ⟨fuel, hf⟩ := h
  have hl : Light P T d := fun n hn => by simpa using List.all_eq_true.1 hsz n (DataW.weights_mem_each hj hd n hn)
  obtain ⟨s, hs, ys, hn, hr, hy⟩ := rdr_slice hu hk hb hk0 hr fuel _ d p hf hl
  have := hs 0 _ Nat.one_pos rfl
  simp only [Value.cells] at this
  have e : (Value.slice a0 len cap) = .slice s.A s.n s.c := by simpa using this
  exact ⟨s.A, s.c, ys, by rw [e, hn], hr, hy⟩
end
end Go.Proofs.Ytkgofmloleicgaa
namespace Go.Proofs.Ytkgofmloleicgaa
open Go.ChangeShapes Go.WideShapes Go.ChangeAt Go.RowKit
theorem lawTangleLinks (x0 : List Int) {A0 : Option Addr} {c0 : Nat} (W : World) (h0 : RdA cdInt (hp W) A0 c0 x0) :
    Calls Try.prog 6 #[.slice A0 x0.length c0] W fun e W' => e = .returned (.bool true) ∧ Below W.heap.size W W' := by
  exact law_of_ct (TangleLinks_t x0 h0 (SH.start W))
set_option maxRecDepth 100000 in
theorem tangleLinks_lifted (os : Os) (started : os.Started) (H : Type) (enc : TypeId × Value → H) :
    ReturnsInHanded {} Try.checked os 6 .any (Rows.tangleLinksSpec.pre6 enc Try.prog Try.f6 Rows.tangleLinksRow.domain false) (Rows.tangleLinksSpec.post enc Try.prog Try.f6 false true false false) := by
  refine law_lift (C := Try.checked) (tb := 4) (by kernel_rfl) started (by kernel_rfl) Try.func6
    (ChangeSpec.witness6 (enc := enc) (C := Try.checked) false ⟨#[], #[.slice none 0 0], []⟩ 8 (by kernel_rfl) (by kernel_rfl) (by kernel_rfl) (by kernel_rfl))
    rfl (by kernel_rfl) (by kernel_rfl) rfl Try.underlying4 ?_ ?_
  · intro ds hds
    match ds, hds with
    | [d0], _ => rfl
  · intro W base args ds p hval hA _ hlt hsz
    rw [Try.params6] at hA hval hsz
    obtain ⟨v0, vs0, d0, ds0, p0, q0, hargs, rfl, rfl, h0, r0⟩ := trodAll_cons hA
    obtain ⟨rfl, rfl, rfl⟩ := trodAll_nil r0
    obtain rfl : args = #[v0] := by cases args; simp_all
    obtain ⟨A0, c0, xs0, rfl, g0, _⟩ := open_sl (C := cdInt) Try.underlying27 (by kernel_rfl) (by kernel_rfl) (by decide) (rdr_int Try.underlying3) (hval 0 27 v0 rfl rfl) h0 hsz (j := 0) rfl rfl
    exact lawTangleLinks xs0 W g0
theorem tangleLinks_holds : Rows.TangleLinksSaid :=
  OpenClaim.holds_of_wide 6 Try.f6 rfl rfl rfl rfl rfl rfl rfl ⟨rfl, rfl, rfl, rfl, rfl⟩ rfl rfl rfl rfl rfl (by kernel_rfl) Try.func6 (by kernel_rfl)
    (of_decide_eq_true (by kernel_rfl)) (by unfold Func.isWrapper; first | (rw [if_pos (by decide +kernel)]; kernel_rfl) | (rw [if_neg (by decide +kernel)]; exact ⟨rfl, rfl⟩))
    (fun os started H enc _ => tangleLinks_lifted os started H enc)
#print axioms tangleLinks_holds
end Go.Proofs.Ytkgofmloleicgaa
