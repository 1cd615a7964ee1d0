/- Part 4 of the proof of the law TangleLinks: the walks through its functions and the plain laws that they need. -/
import Derived.Test.YtkgofmloleicgaaTlZ3
set_option linter.unusedSimpArgs false
set_option linter.unusedVariables false
namespace Go.Proofs.Ytkgofmloleicgaa
open Go.ChangeShapes Go.WideShapes Go.ChangeAt Go.RowKit
def glN (b a : Bool) (q : Tg) (i : Nat) : Tg := if i = 0 then ⟨q.E, q.pl ++ [pla a], q.ties, q.loops⟩ else if i = 1 then twG1 b a q else twG2 b a q
theorem EOk.pl {q : Tg} (h : EOk q) (l : List A4) : EOk ⟨q.E, l, q.ties, q.loops⟩ := h
theorem EOk.glN {q : Tg} (h : EOk q) (b a : Bool) (i : Nat) : EOk (glN b a q i) := by
 have h0 : EOk (⟨q.E, q.pl ++ [pla a], q.ties, q.loops⟩ : Tg) := h
 have h1 : EOk (twG1 b a q) := h0.glue _ _
 unfold Go.Proofs.Ytkgofmloleicgaa.glN
 split
 ·exact h0
 ·split
  ·exact h1
  ·exact h1.glue _ _
theorem EOk.upd {F : Nat → En} (h : ∀ j, j < 4 → 0 ≤ (F j).o ∧ (F j).o < 4) (k : Nat) (z : Sp) : ∀ j, j < 4 → 0 ≤ (upd F k (enC z) j).o ∧ (upd F k (enC z) j).o < 4 := by
 intro j hj
 unfold Go.Proofs.Ytkgofmloleicgaa.upd
 split
 ·exact ⟨Int.le_refl _, by show (0 : Int) < 4; decide⟩
 ·exact h j hj
theorem EOk.twist {q : Tg} (h : EOk q) (b a : Bool) : EOk (twG b a q) := by
 have h2 : EOk (twG2 b a q) := h.glN b a 2
 exact EOk.upd (EOk.upd h2 _ _) _ _
theorem EOk.join {q : Tg} (h : EOk q) (i j : Nat) : EOk (joinG q i j) := by
 unfold joinG
 split
 ·exact h.glue _ _
 ·exact h
theorem eok_tgs (ts : List (Bool × Bool)) : EOk (tgs ts) := by
 refine snocInd (P := fun ts => EOk (tgs ts)) ?_ (fun l t ih => ?_) ts
 ·intro j hj
  exact ⟨by show (0 : Int) ≤ (fl j : Int); omega, by have := fl_lt j; show ((fl j : Nat) : Int) < 4; omega⟩
 ·rw [tgs_snoc]; exact ih.twist _ _
theorem tgs_pl (ts : List (Bool × Bool)) : (tgs ts).pl.length = ts.length ∧ (tgs ts).loops = 0 := by
 refine snocInd (P := fun ts => (tgs ts).pl.length = ts.length ∧ (tgs ts).loops = 0) ⟨rfl, rfl⟩ (fun l t ih => ?_) ts
 rw [tgs_snoc, (twG_pl _ _ _).1, (twG_pl _ _ _).2, List.length_append, List.length_append, ih.1]
 exact ⟨rfl, ih.2⟩
def enN (b : Bool) (c : Int) (F : Nat → En) (i : Nat) : Nat → En := if i = 0 then F else if i = 1 then upd F (old0 b) (enC ⟨c, (old0 b : Int)⟩) else upd (upd F (old0 b) (enC ⟨c, (old0 b : Int)⟩)) 3 (enC ⟨c, 3⟩)
noncomputable def Twist_n0 : Code := Try.f27.body.getD .skip
noncomputable def Twist_n1 : Code := cL Twist_n0
noncomputable def Twist_n2 : Code := cR Twist_n0
noncomputable def Twist_n3 : Code := cL Twist_n2
noncomputable def Twist_n4 : Code := cR Twist_n2
noncomputable def Twist_n5 : Code := cL Twist_n3
noncomputable def Twist_n6 : Code := cR Twist_n3
noncomputable def Twist_n7 : Code := cL Twist_n6
noncomputable def Twist_n8 : Code := cR Twist_n6
noncomputable def Twist_n9 : Code := cL Twist_n4
noncomputable def Twist_n10 : Code := cR Twist_n4
noncomputable def Twist_n11 : Code := cL Twist_n10
noncomputable def Twist_n12 : Code := cR Twist_n10
noncomputable def Twist_n13 : Code := cL Twist_n11
noncomputable def Twist_n14 : Code := cR Twist_n11
noncomputable def Twist_n15 : Code := cL Twist_n14
noncomputable def Twist_n16 : Code := cR Twist_n14
noncomputable def Twist_n17 : Code := cL Twist_n12
noncomputable def Twist_n18 : Code := cR Twist_n12
noncomputable def Twist_n19 : Code := cL Twist_n17
noncomputable def Twist_n20 : Code := cR Twist_n17
noncomputable def Twist_n21 : Code := cL Twist_n20
noncomputable def Twist_n22 : Code := cL Twist_n21
noncomputable def Twist_n23 : Code := cL Twist_n22
noncomputable def Twist_n24 : Code := cR Twist_n22
noncomputable def Twist_n25 : Code := cL Twist_n24
noncomputable def Twist_n26 : Code := cR Twist_n24
noncomputable def Twist_n27 : Code := cL Twist_n25
noncomputable def Twist_n28 : Code := cR Twist_n25
noncomputable def Twist_n29 : Code := cL Twist_n26
noncomputable def Twist_n30 : Code := cR Twist_n26
noncomputable def Twist_n31 : Code := cL Twist_n29
noncomputable def Twist_n32 : Code := cL Twist_n31
noncomputable def Twist_n33 : Code := cR Twist_n31
noncomputable def Twist_n34 : Code := cL Twist_n18
noncomputable def Twist_n35 : Code := cR Twist_n18
noncomputable def Twist_n36 : Code := cL Twist_n35
noncomputable def Twist_n37 : Code := cL Twist_n36
noncomputable def Twist_n38 : Code := cL Twist_n37
noncomputable def Twist_n39 : Code := cR Twist_n37
noncomputable def Twist_n40 : Code := cL Twist_n39
noncomputable def Twist_n41 : Code := cR Twist_n39
noncomputable def Twist_n42 : Code := cL Twist_n40
noncomputable def Twist_n43 : Code := cR Twist_n40
noncomputable def Twist_n44 : Code := cL Twist_n41
noncomputable def Twist_n45 : Code := cR Twist_n41
noncomputable def Twist_n46 : Code := cL Twist_n44
noncomputable def Twist_n47 : Code := cL Twist_n46
noncomputable def Twist_n48 : Code := cR Twist_n46
set_option maxHeartbeats 1000000 in
set_option maxRecDepth 10000 in
theorem Twist_b {w : World} {M : Hp} {X : Fr} {gt gti : Nat} {vpl : Value} (q : Tg) (bl : Bool) (ab : Bool) (hE : EOk q) (hlen : q.pl.length ≤ 16) (S : SH w M X [Rs.bun [Rs.box gt 72 [.bool ((q.E 0).ic), .int .i64 ((q.E 0).c), .int .i64 ((q.E 0).a), .int .i64 ((q.E 0).o), .bool ((q.E 1).ic), .int .i64 ((q.E 1).c), .int .i64 ((q.E 1).a), .int .i64 ((q.E 1).o), .bool ((q.E 2).ic), .int .i64 ((q.E 2).c), .int .i64 ((q.E 2).a), .int .i64 ((q.E 2).o), .bool ((q.E 3).ic), .int .i64 ((q.E 3).c), .int .i64 ((q.E 3).a), .int .i64 ((q.E 3).o), vpl, .map (some gti), .int .i64 q.loops], Rs.row cdA4 vpl q.pl, Rs.mp (fun x => Value.agg (cdCo.f x).toArray) (fun x => Value.agg (cdCo.f x).toArray) gti q.ties]]) : C1 Try.prog 27 [.pointer (some ⟨gt, 0, none⟩), .bool bl, .bool ab] w M X (fun u M' r' => u = tup [] ∧ M' = M ∧ ∃ v', r' = Rs.bun (tgB gt v' gti (twG bl ab q))) := by
 unfold C1
 replace S := S.unbun
 refine calls_in (b := Twist_n0) Try.func27 rfl Try.ntmps27 rfl (fun C hC => ?_)
 refine ws_sub [(0, _), (1, _), (2, _)] ⟨rfl, rfl, rfl, trivial⟩ ?_
 refine ws_seqN Twist_n1 Twist_n2 rfl rfl rfl ?_
 refine ws_region rfl ?_
 refine wlm 0 1 rfl rfl rfl rfl rfl rfl rfl ?_
 refine wlo 1 2 rfl rfl rfl (wo_run rfl rfl (run_nilCheck rfl rfl) ?_)
 refine wlo 2 3 rfl rfl rfl (wo_run rfl rfl (run_fieldAddr rfl rfl Try.underlying72 rfl (ce70) (nf70)) ?_)
 refine wlo 3 4 rfl rfl rfl (wo_run rfl rfl (run_load1 rfl rfl Try.underlying70 rfl (S.boxc (i := 0) rfl rfl)) ?_)
 refine wlo 4 5 rfl rfl rfl (wo_run rfl rfl (run_lenR (C := cdA4) (i := 1) rfl rfl rfl rfl rfl rfl sl70 S rfl) ?_)
 refine wla 5 6 rfl rfl rfl rfl rfl rfl rfl ?_
 refine wl_end rfl ?_
 refine nm_sub [(0, _), (1, _), (2, _), (6, _)] ⟨rfl, rfl, rfl, rfl, trivial⟩ ?_
 refine nm_thn ?_
 refine ws_seqN Twist_n3 Twist_n4 rfl rfl rfl ?_
 refine ws_seqN Twist_n5 Twist_n6 rfl rfl rfl ?_
 refine ws_region rfl ?_
 refine wlm 0 1 rfl rfl rfl rfl rfl rfl rfl ?_
 refine wl_end rfl ?_
 refine nm_sub [(0, _), (1, _), (6, _), (17, _)] ⟨rfl, rfl, rfl, rfl, trivial⟩ ?_
 refine nm_thn ?_
 refine ws_condN Twist_n7 Twist_n8 rfl rfl rfl rfl (fun hb17 => ?_) (fun hb17 => ?_)
 ·refine ws_region rfl ?_
  refine wlm 0 1 rfl rfl rfl rfl rfl rfl rfl ?_
  refine wlm 1 2 rfl rfl rfl rfl rfl rfl rfl ?_
  refine wlo 2 3 rfl rfl rfl (wo_run rfl rfl (run_nilCheck rfl rfl) ?_)
  refine wlo 3 4 rfl rfl rfl (wo_run rfl rfl (run_fieldAddr rfl rfl Try.underlying72 rfl (ce70) (nf70)) ?_)
  refine wlo 4 5 rfl rfl rfl (wo_run rfl rfl (run_load1 rfl rfl Try.underlying70 rfl (S.boxc (i := 0) rfl rfl)) ?_)
  refine wlo 5 6 rfl rfl rfl (wo_run rfl rfl (run_buildA (l := [_, _, _, _]) (pl := [(0, 1), (1, 1), (2, 1), (3, 1)]) rfl rfl Try.underlying73 zr73 sz3 rfl rfl rfl) ?_)
  refine wlo 6 7 rfl rfl rfl (wo_buildSlice1 (C := cdA4) (l := [_, _, _, _]) rfl rfl rfl rfl sl70 rfl rfl rfl rfl S ?_)
  intro gb1 w1 S1; clear S
  refine wlo 7 8 rfl rfl rfl (wo_append1 (C := cdA4) (i := 2) (q := 0) (⟨0, 2, 3, 1⟩ : A4) rfl rfl rfl rfl rfl rfl rfl rfl sl70 S1 rfl rfl rfl (by show (_ + 1) * 32 ≤ _; first | omega | (simp only [lens]; omega)) ?_)
  intro vpl1 w2 S2; clear S1
  have S3 := S2.pick [1, 2, 3] [_, _, _] (by decide) ⟨rfl, rfl, rfl, trivial⟩; clear S2
  refine wlo 8 9 rfl rfl rfl (wo_run rfl rfl (run_nilCheck rfl rfl) ?_)
  refine wlo 9 10 rfl rfl rfl (wo_run rfl rfl (run_fieldAddr rfl rfl Try.underlying72 rfl (ce70) (nf70)) ?_)
  refine wlo 10 11 rfl rfl rfl (wo_storeB (i := 0) (us := [_]) (l' := [_, _, _, _, _, _, _, _, _, _, _, _, _, _, _, _, _, _, _]) (H' := [_, _, _]) rfl rfl S3 rfl rfl rfl (S3.cells1 (i := 1) rfl) sz70 rfl (ones_cons (S3.one (i := 1) rfl) rfl) rfl rfl ?_)
  intro w3 S4; clear S3
  refine wl_end rfl ?_
  refine nm_sub [(0, _), (1, _), (6, _)] ⟨rfl, rfl, rfl, trivial⟩ ?_
  refine nm_thn ?_
  refine ws_seqN Twist_n9 Twist_n10 rfl rfl rfl ?_
  have hrc1 : q.pl ++ [(⟨0, 2, 3, 1⟩ : A4)] = q.pl ++ [pla ab] := by rw [hb17]; rfl
  rw [hrc1] at S4; clear hrc1
  refine ws_region rfl ?_
  refine wlo 0 1 rfl rfl rfl (wo_run rfl rfl (run_buildA (l := [_, _]) (pl := [(0, 1), (1, 1)]) rfl rfl Try.underlying74 zr74 sz3 rfl rfl rfl) ?_)
  refine wlo 1 2 rfl rfl rfl (wo_run rfl rfl (run_buildA (l := [_, _]) (pl := [(0, 1), (1, 1)]) rfl rfl Try.underlying74 zr74 sz3 rfl rfl rfl) ?_)
  refine wlo 2 3 rfl rfl rfl (wo_run rfl rfl (run_buildA (l := [_, _]) (pl := [(0, 1), (1, 1)]) rfl rfl Try.underlying74 zr74 sz3 rfl rfl rfl) ?_)
  refine wlo 3 4 rfl rfl rfl (wo_alloc (l := [_, _]) rfl rfl rfl zr74 rfl S4 ?_)
  intro gb2 w4 S5; clear S4
  refine wlo 4 5 rfl rfl rfl (wo_alloc (l := [_, _]) rfl rfl rfl zr74 rfl S5 ?_)
  intro gb3 w5 S6; clear S5
  refine wlo 5 6 rfl rfl rfl (wo_alloc (l := [_, _]) rfl rfl rfl zr74 rfl S6 ?_)
  intro gb4 w6 S7; clear S6
  refine wlo 6 7 rfl rfl rfl (wo_storeB (i := 2) (us := [_, _]) (l' := [_, _]) (H' := [_, _, _, _, _, _]) rfl rfl S7 rfl rfl rfl rfl sz74 rfl rfl rfl rfl ?_)
  intro w7 S8; clear S7
  refine wlo 7 8 rfl rfl rfl (wo_storeB (i := 1) (us := [_, _]) (l' := [_, _]) (H' := [_, _, _, _, _, _]) rfl rfl S8 rfl rfl rfl rfl sz74 rfl rfl rfl rfl ?_)
  intro w8 S9; clear S8
  refine wlo 8 9 rfl rfl rfl (wo_storeB (i := 0) (us := [_, _]) (l' := [_, _]) (H' := [_, _, _, _, _, _]) rfl rfl S9 rfl rfl rfl rfl sz74 rfl rfl rfl rfl ?_)
  intro w9 S10; clear S9
  refine wl_end rfl ?_
  refine nm_sub [(0, _), (1, _), (6, _), (7, _), (8, _), (9, _)] ⟨rfl, rfl, rfl, rfl, rfl, rfl, trivial⟩ ?_
  refine nm_thn ?_
  refine ws_seqN Twist_n11 Twist_n12 rfl rfl rfl ?_
  refine ws_seqN Twist_n13 Twist_n14 rfl rfl rfl ?_
  refine ws_region rfl ?_
  refine wlm 0 1 rfl rfl rfl rfl rfl rfl rfl ?_
  refine wl_end rfl ?_
  refine nm_sub [(0, _), (6, _), (7, _), (8, _), (9, _), (41, _)] ⟨rfl, rfl, rfl, rfl, rfl, rfl, trivial⟩ ?_
  refine nm_thn ?_
  refine ws_condN Twist_n15 Twist_n16 rfl rfl rfl rfl (fun hb41 => ?_) (fun hb41 => ?_)
  ·refine ws_region rfl ?_
   refine wlo 0 1 rfl rfl rfl (wo_run rfl rfl (run_buildA (l := [_, _]) (pl := [(0, 1), (1, 1)]) rfl rfl Try.underlying74 zr74 sz3 rfl rfl rfl) ?_)
   refine wlo 1 2 rfl rfl rfl (wo_run rfl rfl (run_buildA (l := [_, _]) (pl := [(0, 1), (1, 1)]) rfl rfl Try.underlying74 zr74 sz3 rfl rfl rfl) ?_)
   refine wlo 2 3 rfl rfl rfl (wo_run rfl rfl (run_buildA (l := [_, _]) (pl := [(0, 1), (1, 1)]) rfl rfl Try.underlying74 zr74 sz3 rfl rfl rfl) ?_)
   refine wlo 3 4 rfl rfl rfl (wo_storeB (i := 2) (us := [_, _]) (l' := [_, _]) (H' := [_, _, _, _, _, _]) rfl rfl S10 rfl rfl rfl rfl sz74 rfl rfl rfl rfl ?_)
   intro w10 S11; clear S10
   refine wlo 4 5 rfl rfl rfl (wo_storeB (i := 1) (us := [_, _]) (l' := [_, _]) (H' := [_, _, _, _, _, _]) rfl rfl S11 rfl rfl rfl rfl sz74 rfl rfl rfl rfl ?_)
   intro w11 S12; clear S11
   refine wlo 5 6 rfl rfl rfl (wo_storeB (i := 0) (us := [_, _]) (l' := [_, _]) (H' := [_, _, _, _, _, _]) rfl rfl S12 rfl rfl rfl rfl sz74 rfl rfl rfl rfl ?_)
   intro w12 S13; clear S12
   refine wl_end rfl ?_
   refine nm_sub [(0, _), (6, _), (7, _), (8, _), (9, _)] ⟨rfl, rfl, rfl, rfl, rfl, trivial⟩ ?_
   refine nm_thn ?_
   refine ws_seqN Twist_n17 Twist_n18 rfl rfl rfl ?_
   refine ws_seqN Twist_n19 Twist_n20 rfl rfl rfl ?_
   refine ws_region rfl ?_
   refine wlm 0 1 rfl rfl rfl rfl rfl rfl rfl ?_
   refine wl_end rfl ?_
   refine nm_thn ?_
   refine ws_blockN Twist_n21 0 rfl rfl rfl ?_
   refine ws_loopE (fun mx_ ax_ wx_ => ∃ (i : Nat) (vplx : Value), mx_ = 2 - 1 * i ∧ Env 76 [(0, .pointer (some ⟨gt, 0, none⟩)), (6, .int .i64 (q.pl.length : Int)), (7, .pointer (some ⟨gb2, 0, none⟩)), (8, .pointer (some ⟨gb3, 0, none⟩)), (9, .pointer (some ⟨gb4, 0, none⟩)), (45, .int .i64 (i : Int))] ax_ ∧ SH wx_ M X [Rs.box gb4 74 [.int .i64 2, .int .i64 3], Rs.box gb3 74 [.int .i64 0, .int .i64 1], Rs.box gb2 74 [.int .i64 2, .int .i64 3], Rs.box gt 72 [.bool (((glN bl ab q i).E 0).ic), .int .i64 (((glN bl ab q i).E 0).c), .int .i64 (((glN bl ab q i).E 0).a), .int .i64 (((glN bl ab q i).E 0).o), .bool (((glN bl ab q i).E 1).ic), .int .i64 (((glN bl ab q i).E 1).c), .int .i64 (((glN bl ab q i).E 1).a), .int .i64 (((glN bl ab q i).E 1).o), .bool (((glN bl ab q i).E 2).ic), .int .i64 (((glN bl ab q i).E 2).c), .int .i64 (((glN bl ab q i).E 2).a), .int .i64 (((glN bl ab q i).E 2).o), .bool (((glN bl ab q i).E 3).ic), .int .i64 (((glN bl ab q i).E 3).c), .int .i64 (((glN bl ab q i).E 3).a), .int .i64 (((glN bl ab q i).E 3).o), vplx, .map (some gti), .int .i64 ((glN bl ab q i).loops)], Rs.row cdA4 vplx ((glN bl ab q i).pl), Rs.mp (fun x => Value.agg (cdCo.f x).toArray) (fun x => Value.agg (cdCo.f x).toArray) gti ((glN bl ab q i).ties)] ∧ i ≤ 2) rfl ?_ ?_
   ·intro ax_ hax_
    refine ⟨_, ⟨0, _, rfl, hax_.sub ⟨rfl, rfl, rfl, rfl, rfl, rfl, trivial⟩, S13.pick [0, 1, 2, 3, 4, 5] [_, _, _, _, _, _] (by decide) ⟨rfl, rfl, rfl, rfl, rfl, rfl, trivial⟩, ?hq1f0⟩⟩
    case hq1f0 => first | assumption | omega
   ·rintro m1 a1 w13 ⟨i, vplx, rfl, he1, S14, hi⟩
    clear S13
    refine ws_in he1 (c := Twist_n22) rfl ?_
    clear he1 a1
    have hEi := hE.glN bl ab i
    have hpli : (q.pl ++ [pla ab]).length = q.pl.length + 1 := by simp
    refine ws_seqN Twist_n23 Twist_n24 rfl rfl rfl ?_
    refine ws_region rfl ?_
    refine wlo 0 1 rfl rfl rfl (wo_run rfl rfl (run_lss rfl rfl rfl) ?_)
    refine wl_end rfl ?_
    refine nm_thn ?_
    refine ws_seqN Twist_n25 Twist_n26 rfl rfl rfl ?_
    refine ws_condN Twist_n27 Twist_n28 rfl rfl rfl rfl (fun hb46 => ?_) (fun hb46 => ?_)
    ·replace hb46 := of_decide_eq_true hb46
     refine ws_skip rfl ?_
     refine nm_sub [(0, _), (6, _), (7, _), (8, _), (9, _), (45, _)] ⟨rfl, rfl, rfl, rfl, rfl, rfl, trivial⟩ ?_
     refine nm_thn ?_
     refine ws_seqN Twist_n29 Twist_n30 rfl rfl rfl ?_
     refine ws_blockN Twist_n31 1 rfl rfl rfl ?_
     refine ws_seqN Twist_n32 Twist_n33 rfl rfl rfl ?_
     refine ws_region rfl ?_
     refine wlm 0 1 rfl rfl rfl rfl rfl rfl rfl ?_
     refine wla 1 2 rfl rfl rfl rfl rfl rfl rfl ?_
     refine wl_end rfl ?_
     refine nm_sub [(0, _), (6, _), (7, _), (8, _), (9, _), (45, _), (10, _)] ⟨rfl, rfl, rfl, rfl, rfl, rfl, rfl, trivial⟩ ?_
     refine nm_thn ?_
     refine ws_draw rfl (by kernel_rfl) S14 10 rfl ?_
     clear S14
     refine wa_takeP (i := 0) (d := 48) 9 rfl (by kernel_rfl) (by kernel_rfl) (by kernel_rfl) rfl rfl rfl (fun w14 => run_move rfl rfl) ?_
     refine wa_takeP (i := 1) (d := 49) 8 rfl (by kernel_rfl) (by kernel_rfl) (by kernel_rfl) rfl rfl rfl (fun w15 => run_move rfl rfl) ?_
     refine wa_take (i := 2) (d := 50) 7 rfl (by kernel_rfl) (by kernel_rfl) (by kernel_rfl) rfl rfl rfl (fun M3 N3 w16 hle4 S17 => .inl (run_indexP (e := i) (k := 1) rfl rfl rfl Try.underlying74 sz3 (by first | rfl | omega) (by first | omega | (simp only [lens]; omega)))) ?_
     refine wa_take (i := 3) (d := 51) 6 rfl (by kernel_rfl) (by kernel_rfl) (by kernel_rfl) rfl rfl rfl (fun M4 N4 w17 hle5 S18 => .inl (run_load1 rfl rfl Try.underlying3 rfl (S18.suf.boxc (i := 2) rfl (nth_v2 (by first | omega | (simp only [lens]; omega)))))) ?_
     refine wa_takeP (i := 4) (d := 52) 5 rfl (by kernel_rfl) (by kernel_rfl) (by kernel_rfl) rfl rfl rfl (fun w18 => run_move rfl rfl) ?_
     refine wa_takeP (i := 5) (d := 53) 4 rfl (by kernel_rfl) (by kernel_rfl) (by kernel_rfl) rfl rfl rfl (fun w19 => run_move rfl rfl) ?_
     refine wa_take (i := 6) (d := 54) 3 rfl (by kernel_rfl) (by kernel_rfl) (by kernel_rfl) rfl rfl rfl (fun M7 N7 w20 hle8 S21 => .inl (run_indexP (e := i) (k := 1) rfl rfl rfl Try.underlying74 sz3 (by first | rfl | omega) (by first | omega | (simp only [lens]; omega)))) ?_
     refine wa_take (i := 7) (d := 55) 2 rfl (by kernel_rfl) (by kernel_rfl) (by kernel_rfl) rfl rfl rfl (fun M8 N8 w21 hle9 S22 => .inl (run_load1 rfl rfl Try.underlying3 rfl (S22.suf.boxc (i := 1) rfl (nth_v2 (by first | omega | (simp only [lens]; omega)))))) ?_
     refine wa_take (i := 8) (d := 56) 1 rfl (by kernel_rfl) (by kernel_rfl) (by kernel_rfl) rfl rfl rfl (fun M9 N9 w22 hle10 S23 => .inl (run_build (l := [_, _]) rfl rfl st65 rfl rfl)) ?_
     refine wa_only (i := 9) 0 rfl (by kernel_rfl) rfl rfl (fun w24 S25 => ?_)
     have S26 := S25.pick [3, 4, 5, 0, 1, 2] [_, _, _, _, _, _] (by decide) ⟨rfl, rfl, rfl, rfl, rfl, rfl, trivial⟩; clear S25
     have S27 : SH _ _ _ (Rs.bun [_, _, _] :: [_, _, _]) := SH.bunC (A := [_, _, _]) (B := [_, _, _]) S26; clear S26
     have S28 : SH _ _ _ [_, _, _, _] := S27.less (i := 0) rfl
     have hcall1 := Glue_b (q := (glN bl ab q i)) ((ga ([2, 3] : List Int) i).toNat) ⟨(q.pl.length : Int), ga ([0, 1] : List Int) i⟩ (by exact hEi) (by (obtain rfl | rfl : i = 0 ∨ i = 1 := by omega) <;> decide) (S27.lend1 (i := 0) rfl); clear S28
     rw [show (((ga ([2, 3] : List Int) i).toNat : Nat) : Int) = ga ([2, 3] : List Int) i from (by (obtain rfl | rfl : i = 0 ∨ i = 1 := by omega) <;> decide)] at hcall1
     refine (wo_c1 (i := 0) rfl rfl rfl rfl rfl rfl rfl cf33 S27 rfl hcall1 ?_)
     intro vw25 w25 M11 rw25 hle12 S29 hR1; clear S27
     obtain ⟨huhMX1, hMX1, hR2⟩ := hR1
     rw [hMX1] at S29
     clear hMX1
     subst huhMX1
     subst hR2
     replace S29 : SH _ _ _ (Rs.bun [_, _, _] :: [_, _, _]) := S29
     have S30 : SH _ _ _ [_, _, _, _, _, _] := SH.unbunC (A := [_, _, _]) (B := [_, _, _]) S29; clear S29
     have eT1 : glueG (glN bl ab q i) ((ga ([2, 3] : List Int) i).toNat) ⟨(q.pl.length : Int), ga ([0, 1] : List Int) i⟩ = (glN bl ab q (i + 1)) := by (obtain rfl | rfl : i = 0 ∨ i = 1 := by omega) <;> (rw [hb41]; rfl)
     rw [eT1] at S30; clear eT1
     refine LeftW.turn (by kernel_rfl) S30 ?_; clear S30
     change WA _ _ _ _ _ _ _ _ _ _ _ _ [_, _, _, _, _, _]
     refine wa_end (by kernel_rfl) (fun w26 S31 => ?_)
     refine nm_blk ?_
     refine nm_sub [(0, _), (6, _), (7, _), (8, _), (9, _), (45, _)] ⟨rfl, rfl, rfl, rfl, rfl, rfl, trivial⟩ ?_
     refine nm_thn ?_
     refine ws_region rfl ?_
     refine wlo 0 1 rfl rfl rfl (wo_run rfl rfl (run_add rfl rfl rfl (by first | omega | (simp only [lens]; omega))) ?_)
     refine wlm 1 2 rfl rfl rfl rfl rfl rfl rfl ?_
     refine wl_end rfl ?_
     refine nm_lp ?_
     intro ax_ hax_
     refine ⟨_, ?hq2m, ⟨i + 1, _, rfl, hax_.sub ⟨rfl, rfl, rfl, rfl, rfl, rfl, trivial⟩, S31.pick [3, 4, 5, 0, 1, 2] [_, _, _, _, _, _] (by decide) ⟨rfl, rfl, rfl, rfl, rfl, rfl, trivial⟩, ?hq2f0⟩⟩
     case hq2f0 => first | assumption | omega
     case hq2m => omega
    ·replace hb46 := of_decide_eq_false hb46
     have eT2 : (glN bl ab q i) = twG2 bl ab q := by (obtain rfl : i = 2 := (by omega)); rfl
     rw [eT2] at S14; clear eT2
     clear hi
     refine ws_exit rfl rfl ?_
     refine nm_sub [(0, _), (6, _), (7, _), (9, _)] ⟨rfl, rfl, rfl, rfl, trivial⟩ ?_
     refine nm_thn ?_
     refine ws_seqN Twist_n34 Twist_n35 rfl rfl rfl ?_
     refine ws_region rfl ?_
     refine wlm 0 1 rfl rfl rfl rfl rfl rfl rfl ?_
     refine wl_end rfl ?_
     refine nm_thn ?_
     refine ws_blockN Twist_n36 2 rfl rfl rfl ?_
     refine ws_loopE (fun mx_ ax_ wx_ => ∃ (i : Nat) (vply : Value), mx_ = 2 - 1 * i ∧ Env 76 [(0, .pointer (some ⟨gt, 0, none⟩)), (6, .int .i64 (q.pl.length : Int)), (7, .pointer (some ⟨gb2, 0, none⟩)), (9, .pointer (some ⟨gb4, 0, none⟩)), (59, .int .i64 (i : Int))] ax_ ∧ SH wx_ M X [Rs.box gb4 74 [.int .i64 2, .int .i64 3], Rs.box gb2 74 [.int .i64 2, .int .i64 3], Rs.box gt 72 [.bool (((enN bl (q.pl.length : Int) (twG2 bl ab q).E i) 0).ic), .int .i64 (((enN bl (q.pl.length : Int) (twG2 bl ab q).E i) 0).c), .int .i64 (((enN bl (q.pl.length : Int) (twG2 bl ab q).E i) 0).a), .int .i64 (((enN bl (q.pl.length : Int) (twG2 bl ab q).E i) 0).o), .bool (((enN bl (q.pl.length : Int) (twG2 bl ab q).E i) 1).ic), .int .i64 (((enN bl (q.pl.length : Int) (twG2 bl ab q).E i) 1).c), .int .i64 (((enN bl (q.pl.length : Int) (twG2 bl ab q).E i) 1).a), .int .i64 (((enN bl (q.pl.length : Int) (twG2 bl ab q).E i) 1).o), .bool (((enN bl (q.pl.length : Int) (twG2 bl ab q).E i) 2).ic), .int .i64 (((enN bl (q.pl.length : Int) (twG2 bl ab q).E i) 2).c), .int .i64 (((enN bl (q.pl.length : Int) (twG2 bl ab q).E i) 2).a), .int .i64 (((enN bl (q.pl.length : Int) (twG2 bl ab q).E i) 2).o), .bool (((enN bl (q.pl.length : Int) (twG2 bl ab q).E i) 3).ic), .int .i64 (((enN bl (q.pl.length : Int) (twG2 bl ab q).E i) 3).c), .int .i64 (((enN bl (q.pl.length : Int) (twG2 bl ab q).E i) 3).a), .int .i64 (((enN bl (q.pl.length : Int) (twG2 bl ab q).E i) 3).o), vply, .map (some gti), .int .i64 ((twG2 bl ab q).loops)], Rs.row cdA4 vply ((twG2 bl ab q).pl), Rs.mp (fun x => Value.agg (cdCo.f x).toArray) (fun x => Value.agg (cdCo.f x).toArray) gti ((twG2 bl ab q).ties)] ∧ i ≤ 2) rfl ?_ ?_
     ·intro ax_ hax_
      refine ⟨_, ⟨0, _, rfl, hax_.sub ⟨rfl, rfl, rfl, rfl, rfl, trivial⟩, S14.pick [0, 2, 3, 4, 5] [_, _, _, _, _] (by decide) ⟨rfl, rfl, rfl, rfl, rfl, trivial⟩, ?hq3f0⟩⟩
      case hq3f0 => first | assumption | omega
     ·rintro m2 a2 w27 ⟨i, vply, rfl, he2, S32, hi⟩
      clear S14
      refine ws_in he2 (c := Twist_n37) rfl ?_
      clear he2 a2
      refine ws_seqN Twist_n38 Twist_n39 rfl rfl rfl ?_
      refine ws_region rfl ?_
      refine wlo 0 1 rfl rfl rfl (wo_run rfl rfl (run_lss rfl rfl rfl) ?_)
      refine wl_end rfl ?_
      refine nm_thn ?_
      refine ws_seqN Twist_n40 Twist_n41 rfl rfl rfl ?_
      refine ws_condN Twist_n42 Twist_n43 rfl rfl rfl rfl (fun hb60 => ?_) (fun hb60 => ?_)
      ·replace hb60 := of_decide_eq_true hb60
       refine ws_skip rfl ?_
       refine nm_sub [(0, _), (6, _), (7, _), (9, _), (59, _)] ⟨rfl, rfl, rfl, rfl, rfl, trivial⟩ ?_
       refine nm_thn ?_
       refine ws_seqN Twist_n44 Twist_n45 rfl rfl rfl ?_
       refine ws_blockN Twist_n46 3 rfl rfl rfl ?_
       refine ws_seqN Twist_n47 Twist_n48 rfl rfl rfl ?_
       refine ws_region rfl ?_
       refine wlm 0 1 rfl rfl rfl rfl rfl rfl rfl ?_
       refine wla 1 2 rfl rfl rfl rfl rfl rfl rfl ?_
       refine wl_end rfl ?_
       refine nm_sub [(0, _), (6, _), (7, _), (9, _), (59, _), (11, _)] ⟨rfl, rfl, rfl, rfl, rfl, rfl, trivial⟩ ?_
       refine nm_thn ?_
       refine ws_draw rfl (by kernel_rfl) S32 14 rfl ?_
       clear S32
       refine wa_takeP (i := 0) (d := 62) 13 rfl (by kernel_rfl) (by kernel_rfl) (by kernel_rfl) rfl rfl rfl (fun w28 => run_move rfl rfl) ?_
       refine wa_takeP (i := 1) (d := 63) 12 rfl (by kernel_rfl) (by kernel_rfl) (by kernel_rfl) rfl rfl rfl (fun w29 => run_move rfl rfl) ?_
       refine wa_take (i := 2) (d := 64) 11 rfl (by kernel_rfl) (by kernel_rfl) (by kernel_rfl) rfl rfl rfl (fun M14 N13 w30 hle16 S35 => .inl (run_indexP (e := i) (k := 1) rfl rfl rfl Try.underlying74 sz3 (by first | rfl | omega) (by first | omega | (simp only [lens]; omega)))) ?_
       refine wa_take (i := 3) (d := 65) 10 rfl (by kernel_rfl) (by kernel_rfl) (by kernel_rfl) rfl rfl rfl (fun M15 N14 w31 hle17 S36 => .inl (run_load1 rfl rfl Try.underlying3 rfl (S36.suf.boxc (i := 1) rfl (nth_v2 (by omega))))) ?_
       refine wa_takeP (i := 4) (d := 66) 9 rfl (by kernel_rfl) (by kernel_rfl) (by kernel_rfl) rfl rfl rfl (fun w32 => run_move rfl rfl) ?_
       refine wa_takeP (i := 5) (d := 67) 8 rfl (by kernel_rfl) (by kernel_rfl) (by kernel_rfl) rfl rfl rfl (fun w33 => run_move rfl rfl) ?_
       refine wa_take (i := 6) (d := 68) 7 rfl (by kernel_rfl) (by kernel_rfl) (by kernel_rfl) rfl rfl rfl (fun M18 N17 w34 hle20 S39 => .inl (run_indexP (e := i) (k := 1) rfl rfl rfl Try.underlying74 sz3 (by first | rfl | omega) (by first | omega | (simp only [lens]; omega)))) ?_
       refine wa_take (i := 7) (d := 69) 6 rfl (by kernel_rfl) (by kernel_rfl) (by kernel_rfl) rfl rfl rfl (fun M19 N18 w35 hle21 S40 => .inl (run_load1 rfl rfl Try.underlying3 rfl (S40.suf.boxc (i := 0) rfl (nth_v2 (by first | omega | (simp only [lens]; omega)))))) ?_
       refine wa_take (i := 8) (d := 70) 5 rfl (by kernel_rfl) (by kernel_rfl) (by kernel_rfl) rfl rfl rfl (fun M20 N19 w36 hle22 S41 => .inl (run_build (l := [_, _]) rfl rfl st65 rfl rfl)) ?_
       refine wa_take (i := 9) (d := 71) 4 rfl (by kernel_rfl) (by kernel_rfl) (by kernel_rfl) rfl rfl rfl (fun M21 N20 w37 hle23 S42 => .inl (run_build (l := [_, _, _, _]) rfl rfl st67 rfl rfl)) ?_
       refine wa_takeP (i := 10) (d := 72) 3 rfl (by kernel_rfl) (by kernel_rfl) (by kernel_rfl) rfl rfl rfl (fun w38 => run_nilCheck rfl rfl) ?_
       refine wa_takeP (i := 11) (d := 73) 2 rfl (by kernel_rfl) (by kernel_rfl) (by kernel_rfl) rfl rfl rfl (fun w39 => run_fieldAddr rfl rfl Try.underlying72 rfl (ce68) (nf68)) ?_
       refine wa_take (i := 12) (d := 74) 1 rfl (by kernel_rfl) (by kernel_rfl) (by kernel_rfl) rfl rfl rfl (fun M24 N23 w40 hle26 S45 => .inl (run_indexP (e := (ga ([2, 3] : List Int) i).toNat) (k := 4) rfl rfl rfl Try.underlying68 sz67 (by (obtain rfl | rfl : i = 0 ∨ i = 1 := by omega) <;> decide) (by (obtain rfl | rfl : i = 0 ∨ i = 1 := by omega) <;> decide))) ?_
       refine wa_only (i := 13) 0 rfl (by kernel_rfl) rfl rfl (fun w42 S47 => ?_)
       refine (wo_storeB (i := 2) (us := [_, _, _, _]) (l' := [.bool ((upd (enN bl (q.pl.length : Int) (twG2 bl ab q).E i) ((ga ([2, 3] : List Int) i).toNat) (⟨true, (q.pl.length : Int), ga ([2, 3] : List Int) i, 0⟩ : En) 0).ic), .int .i64 ((upd (enN bl (q.pl.length : Int) (twG2 bl ab q).E i) ((ga ([2, 3] : List Int) i).toNat) (⟨true, (q.pl.length : Int), ga ([2, 3] : List Int) i, 0⟩ : En) 0).c), .int .i64 ((upd (enN bl (q.pl.length : Int) (twG2 bl ab q).E i) ((ga ([2, 3] : List Int) i).toNat) (⟨true, (q.pl.length : Int), ga ([2, 3] : List Int) i, 0⟩ : En) 0).a), .int .i64 ((upd (enN bl (q.pl.length : Int) (twG2 bl ab q).E i) ((ga ([2, 3] : List Int) i).toNat) (⟨true, (q.pl.length : Int), ga ([2, 3] : List Int) i, 0⟩ : En) 0).o), .bool ((upd (enN bl (q.pl.length : Int) (twG2 bl ab q).E i) ((ga ([2, 3] : List Int) i).toNat) (⟨true, (q.pl.length : Int), ga ([2, 3] : List Int) i, 0⟩ : En) 1).ic), .int .i64 ((upd (enN bl (q.pl.length : Int) (twG2 bl ab q).E i) ((ga ([2, 3] : List Int) i).toNat) (⟨true, (q.pl.length : Int), ga ([2, 3] : List Int) i, 0⟩ : En) 1).c), .int .i64 ((upd (enN bl (q.pl.length : Int) (twG2 bl ab q).E i) ((ga ([2, 3] : List Int) i).toNat) (⟨true, (q.pl.length : Int), ga ([2, 3] : List Int) i, 0⟩ : En) 1).a), .int .i64 ((upd (enN bl (q.pl.length : Int) (twG2 bl ab q).E i) ((ga ([2, 3] : List Int) i).toNat) (⟨true, (q.pl.length : Int), ga ([2, 3] : List Int) i, 0⟩ : En) 1).o), .bool ((upd (enN bl (q.pl.length : Int) (twG2 bl ab q).E i) ((ga ([2, 3] : List Int) i).toNat) (⟨true, (q.pl.length : Int), ga ([2, 3] : List Int) i, 0⟩ : En) 2).ic), .int .i64 ((upd (enN bl (q.pl.length : Int) (twG2 bl ab q).E i) ((ga ([2, 3] : List Int) i).toNat) (⟨true, (q.pl.length : Int), ga ([2, 3] : List Int) i, 0⟩ : En) 2).c), .int .i64 ((upd (enN bl (q.pl.length : Int) (twG2 bl ab q).E i) ((ga ([2, 3] : List Int) i).toNat) (⟨true, (q.pl.length : Int), ga ([2, 3] : List Int) i, 0⟩ : En) 2).a), .int .i64 ((upd (enN bl (q.pl.length : Int) (twG2 bl ab q).E i) ((ga ([2, 3] : List Int) i).toNat) (⟨true, (q.pl.length : Int), ga ([2, 3] : List Int) i, 0⟩ : En) 2).o), .bool ((upd (enN bl (q.pl.length : Int) (twG2 bl ab q).E i) ((ga ([2, 3] : List Int) i).toNat) (⟨true, (q.pl.length : Int), ga ([2, 3] : List Int) i, 0⟩ : En) 3).ic), .int .i64 ((upd (enN bl (q.pl.length : Int) (twG2 bl ab q).E i) ((ga ([2, 3] : List Int) i).toNat) (⟨true, (q.pl.length : Int), ga ([2, 3] : List Int) i, 0⟩ : En) 3).c), .int .i64 ((upd (enN bl (q.pl.length : Int) (twG2 bl ab q).E i) ((ga ([2, 3] : List Int) i).toNat) (⟨true, (q.pl.length : Int), ga ([2, 3] : List Int) i, 0⟩ : En) 3).a), .int .i64 ((upd (enN bl (q.pl.length : Int) (twG2 bl ab q).E i) ((ga ([2, 3] : List Int) i).toNat) (⟨true, (q.pl.length : Int), ga ([2, 3] : List Int) i, 0⟩ : En) 3).o), vply, .map (some gti), .int .i64 ((twG2 bl ab q).loops)]) (H' := [_, _, _, _, _]) rfl rfl S47 rfl rfl rfl rfl sz67 (ble_en (by (obtain rfl | rfl : i = 0 ∨ i = 1 := by omega) <;> decide)) rfl (spl_en (enN bl (q.pl.length : Int) (twG2 bl ab q).E i) (⟨true, (q.pl.length : Int), ga ([2, 3] : List Int) i, 0⟩ : En) ((ga ([2, 3] : List Int) i).toNat) (by (obtain rfl | rfl : i = 0 ∨ i = 1 := by omega) <;> decide)) rfl ?_)
       intro w43 S48; clear S47
       refine LeftW.turn (by kernel_rfl) S48 ?_; clear S48
       change WA _ _ _ _ _ _ _ _ _ _ _ _ [_, _, _, _, _]
       refine wa_end (by kernel_rfl) (fun w44 S49 => ?_)
       refine nm_blk ?_
       refine nm_sub [(0, _), (6, _), (7, _), (9, _), (59, _)] ⟨rfl, rfl, rfl, rfl, rfl, trivial⟩ ?_
       refine nm_thn ?_
       refine ws_region rfl ?_
       refine wlo 0 1 rfl rfl rfl (wo_run rfl rfl (run_add rfl rfl rfl (by first | omega | (simp only [lens]; omega))) ?_)
       refine wlm 1 2 rfl rfl rfl rfl rfl rfl rfl ?_
       refine wl_end rfl ?_
       refine nm_lp ?_
       have eE1 : upd (enN bl (q.pl.length : Int) (twG2 bl ab q).E i) ((ga ([2, 3] : List Int) i).toNat) (⟨true, (q.pl.length : Int), ga ([2, 3] : List Int) i, 0⟩ : En) = enN bl (q.pl.length : Int) (twG2 bl ab q).E (i + 1) := by (obtain rfl | rfl : i = 0 ∨ i = 1 := by omega) <;> (rw [hb41]; rfl)
       rw [eE1] at S49; clear eE1
       intro ax_ hax_
       refine ⟨_, ?hq4m, ⟨i + 1, _, rfl, hax_.sub ⟨rfl, rfl, rfl, rfl, rfl, trivial⟩, S49.pick [0, 1, 2, 3, 4] [_, _, _, _, _] (by decide) ⟨rfl, rfl, rfl, rfl, rfl, trivial⟩, ?hq4f0⟩⟩
       case hq4f0 => first | assumption | omega
       case hq4m => omega
      ·replace hb60 := of_decide_eq_false hb60
       refine ws_exit rfl rfl ?_
       refine nm_end hC [] rfl trivial ?_
       refine ⟨_, rfl, _, _, Hp.le_refl _, (S32.pick [2, 3, 4] [_, _, _] (by decide) ⟨rfl, rfl, rfl, trivial⟩).bun, ?_⟩
       have e3 : twG bl ab q = ⟨(enN bl (q.pl.length : Int) (twG2 bl ab q).E i), (twG2 bl ab q).pl, (twG2 bl ab q).ties, (twG2 bl ab q).loops⟩ := by (obtain rfl : i = 2 := (by omega)); rfl
       rw [e3]
       exact ⟨rfl, rfl, _, rfl⟩
  ·refine ws_skip rfl ?_
   refine nm_sub [(0, _), (6, _), (7, _), (8, _), (9, _)] ⟨rfl, rfl, rfl, rfl, rfl, trivial⟩ ?_
   refine nm_thn ?_
   refine ws_seqN Twist_n17 Twist_n18 rfl rfl rfl ?_
   refine ws_seqN Twist_n19 Twist_n20 rfl rfl rfl ?_
   refine ws_region rfl ?_
   refine wlm 0 1 rfl rfl rfl rfl rfl rfl rfl ?_
   refine wl_end rfl ?_
   refine nm_thn ?_
   refine ws_blockN Twist_n21 0 rfl rfl rfl ?_
   refine ws_loopE (fun mx_ ax_ wx_ => ∃ (i : Nat) (vplx : Value), mx_ = 2 - 1 * i ∧ Env 76 [(0, .pointer (some ⟨gt, 0, none⟩)), (6, .int .i64 (q.pl.length : Int)), (7, .pointer (some ⟨gb2, 0, none⟩)), (8, .pointer (some ⟨gb3, 0, none⟩)), (9, .pointer (some ⟨gb4, 0, none⟩)), (45, .int .i64 (i : Int))] ax_ ∧ SH wx_ M X [Rs.box gb4 74 [.int .i64 1, .int .i64 3], Rs.box gb3 74 [.int .i64 0, .int .i64 2], Rs.box gb2 74 [.int .i64 1, .int .i64 3], Rs.box gt 72 [.bool (((glN bl ab q i).E 0).ic), .int .i64 (((glN bl ab q i).E 0).c), .int .i64 (((glN bl ab q i).E 0).a), .int .i64 (((glN bl ab q i).E 0).o), .bool (((glN bl ab q i).E 1).ic), .int .i64 (((glN bl ab q i).E 1).c), .int .i64 (((glN bl ab q i).E 1).a), .int .i64 (((glN bl ab q i).E 1).o), .bool (((glN bl ab q i).E 2).ic), .int .i64 (((glN bl ab q i).E 2).c), .int .i64 (((glN bl ab q i).E 2).a), .int .i64 (((glN bl ab q i).E 2).o), .bool (((glN bl ab q i).E 3).ic), .int .i64 (((glN bl ab q i).E 3).c), .int .i64 (((glN bl ab q i).E 3).a), .int .i64 (((glN bl ab q i).E 3).o), vplx, .map (some gti), .int .i64 ((glN bl ab q i).loops)], Rs.row cdA4 vplx ((glN bl ab q i).pl), Rs.mp (fun x => Value.agg (cdCo.f x).toArray) (fun x => Value.agg (cdCo.f x).toArray) gti ((glN bl ab q i).ties)] ∧ i ≤ 2) rfl ?_ ?_
   ·intro ax_ hax_
    refine ⟨_, ⟨0, _, rfl, hax_.sub ⟨rfl, rfl, rfl, rfl, rfl, rfl, trivial⟩, S10.pick [0, 1, 2, 3, 4, 5] [_, _, _, _, _, _] (by decide) ⟨rfl, rfl, rfl, rfl, rfl, rfl, trivial⟩, ?hq5f0⟩⟩
    case hq5f0 => first | assumption | omega
   ·rintro m3 a3 w45 ⟨i, vplx, rfl, he3, S50, hi⟩
    clear S10
    refine ws_in he3 (c := Twist_n22) rfl ?_
    clear he3 a3
    have hEi := hE.glN bl ab i
    have hpli : (q.pl ++ [pla ab]).length = q.pl.length + 1 := by simp
    refine ws_seqN Twist_n23 Twist_n24 rfl rfl rfl ?_
    refine ws_region rfl ?_
    refine wlo 0 1 rfl rfl rfl (wo_run rfl rfl (run_lss rfl rfl rfl) ?_)
    refine wl_end rfl ?_
    refine nm_thn ?_
    refine ws_seqN Twist_n25 Twist_n26 rfl rfl rfl ?_
    refine ws_condN Twist_n27 Twist_n28 rfl rfl rfl rfl (fun hb46 => ?_) (fun hb46 => ?_)
    ·replace hb46 := of_decide_eq_true hb46
     refine ws_skip rfl ?_
     refine nm_sub [(0, _), (6, _), (7, _), (8, _), (9, _), (45, _)] ⟨rfl, rfl, rfl, rfl, rfl, rfl, trivial⟩ ?_
     refine nm_thn ?_
     refine ws_seqN Twist_n29 Twist_n30 rfl rfl rfl ?_
     refine ws_blockN Twist_n31 1 rfl rfl rfl ?_
     refine ws_seqN Twist_n32 Twist_n33 rfl rfl rfl ?_
     refine ws_region rfl ?_
     refine wlm 0 1 rfl rfl rfl rfl rfl rfl rfl ?_
     refine wla 1 2 rfl rfl rfl rfl rfl rfl rfl ?_
     refine wl_end rfl ?_
     refine nm_sub [(0, _), (6, _), (7, _), (8, _), (9, _), (45, _), (10, _)] ⟨rfl, rfl, rfl, rfl, rfl, rfl, rfl, trivial⟩ ?_
     refine nm_thn ?_
     refine ws_draw rfl (by kernel_rfl) S50 10 rfl ?_
     clear S50
     refine wa_takeP (i := 0) (d := 48) 9 rfl (by kernel_rfl) (by kernel_rfl) (by kernel_rfl) rfl rfl rfl (fun w46 => run_move rfl rfl) ?_
     refine wa_takeP (i := 1) (d := 49) 8 rfl (by kernel_rfl) (by kernel_rfl) (by kernel_rfl) rfl rfl rfl (fun w47 => run_move rfl rfl) ?_
     refine wa_take (i := 2) (d := 50) 7 rfl (by kernel_rfl) (by kernel_rfl) (by kernel_rfl) rfl rfl rfl (fun M28 N27 w48 hle31 S53 => .inl (run_indexP (e := i) (k := 1) rfl rfl rfl Try.underlying74 sz3 (by first | rfl | omega) (by first | omega | (simp only [lens]; omega)))) ?_
     refine wa_take (i := 3) (d := 51) 6 rfl (by kernel_rfl) (by kernel_rfl) (by kernel_rfl) rfl rfl rfl (fun M29 N28 w49 hle32 S54 => .inl (run_load1 rfl rfl Try.underlying3 rfl (S54.suf.boxc (i := 2) rfl (nth_v2 (by first | omega | (simp only [lens]; omega)))))) ?_
     refine wa_takeP (i := 4) (d := 52) 5 rfl (by kernel_rfl) (by kernel_rfl) (by kernel_rfl) rfl rfl rfl (fun w50 => run_move rfl rfl) ?_
     refine wa_takeP (i := 5) (d := 53) 4 rfl (by kernel_rfl) (by kernel_rfl) (by kernel_rfl) rfl rfl rfl (fun w51 => run_move rfl rfl) ?_
     refine wa_take (i := 6) (d := 54) 3 rfl (by kernel_rfl) (by kernel_rfl) (by kernel_rfl) rfl rfl rfl (fun M32 N31 w52 hle35 S57 => .inl (run_indexP (e := i) (k := 1) rfl rfl rfl Try.underlying74 sz3 (by first | rfl | omega) (by first | omega | (simp only [lens]; omega)))) ?_
     refine wa_take (i := 7) (d := 55) 2 rfl (by kernel_rfl) (by kernel_rfl) (by kernel_rfl) rfl rfl rfl (fun M33 N32 w53 hle36 S58 => .inl (run_load1 rfl rfl Try.underlying3 rfl (S58.suf.boxc (i := 1) rfl (nth_v2 (by first | omega | (simp only [lens]; omega)))))) ?_
     refine wa_take (i := 8) (d := 56) 1 rfl (by kernel_rfl) (by kernel_rfl) (by kernel_rfl) rfl rfl rfl (fun M34 N33 w54 hle37 S59 => .inl (run_build (l := [_, _]) rfl rfl st65 rfl rfl)) ?_
     refine wa_only (i := 9) 0 rfl (by kernel_rfl) rfl rfl (fun w56 S61 => ?_)
     have S62 := S61.pick [3, 4, 5, 0, 1, 2] [_, _, _, _, _, _] (by decide) ⟨rfl, rfl, rfl, rfl, rfl, rfl, trivial⟩; clear S61
     have S63 : SH _ _ _ (Rs.bun [_, _, _] :: [_, _, _]) := SH.bunC (A := [_, _, _]) (B := [_, _, _]) S62; clear S62
     have S64 : SH _ _ _ [_, _, _, _] := S63.less (i := 0) rfl
     have hcall2 := Glue_b (q := (glN bl ab q i)) ((ga ([1, 3] : List Int) i).toNat) ⟨(q.pl.length : Int), ga ([0, 2] : List Int) i⟩ (by exact hEi) (by (obtain rfl | rfl : i = 0 ∨ i = 1 := by omega) <;> decide) (S63.lend1 (i := 0) rfl); clear S64
     rw [show (((ga ([1, 3] : List Int) i).toNat : Nat) : Int) = ga ([1, 3] : List Int) i from (by (obtain rfl | rfl : i = 0 ∨ i = 1 := by omega) <;> decide)] at hcall2
     refine (wo_c1 (i := 0) rfl rfl rfl rfl rfl rfl rfl cf33 S63 rfl hcall2 ?_)
     intro vw57 w57 M36 rw57 hle39 S65 hR3; clear S63
     obtain ⟨huhMX2, hMX2, hR4⟩ := hR3
     rw [hMX2] at S65
     clear hMX2
     subst huhMX2
     subst hR4
     replace S65 : SH _ _ _ (Rs.bun [_, _, _] :: [_, _, _]) := S65
     have S66 : SH _ _ _ [_, _, _, _, _, _] := SH.unbunC (A := [_, _, _]) (B := [_, _, _]) S65; clear S65
     have eT3 : glueG (glN bl ab q i) ((ga ([1, 3] : List Int) i).toNat) ⟨(q.pl.length : Int), ga ([0, 2] : List Int) i⟩ = (glN bl ab q (i + 1)) := by (obtain rfl | rfl : i = 0 ∨ i = 1 := by omega) <;> (rw [hb41]; rfl)
     rw [eT3] at S66; clear eT3
     refine LeftW.turn (by kernel_rfl) S66 ?_; clear S66
     change WA _ _ _ _ _ _ _ _ _ _ _ _ [_, _, _, _, _, _]
     refine wa_end (by kernel_rfl) (fun w58 S67 => ?_)
     refine nm_blk ?_
     refine nm_sub [(0, _), (6, _), (7, _), (8, _), (9, _), (45, _)] ⟨rfl, rfl, rfl, rfl, rfl, rfl, trivial⟩ ?_
     refine nm_thn ?_
     refine ws_region rfl ?_
     refine wlo 0 1 rfl rfl rfl (wo_run rfl rfl (run_add rfl rfl rfl (by first | omega | (simp only [lens]; omega))) ?_)
     refine wlm 1 2 rfl rfl rfl rfl rfl rfl rfl ?_
     refine wl_end rfl ?_
     refine nm_lp ?_
     intro ax_ hax_
     refine ⟨_, ?hq6m, ⟨i + 1, _, rfl, hax_.sub ⟨rfl, rfl, rfl, rfl, rfl, rfl, trivial⟩, S67.pick [3, 4, 5, 0, 1, 2] [_, _, _, _, _, _] (by decide) ⟨rfl, rfl, rfl, rfl, rfl, rfl, trivial⟩, ?hq6f0⟩⟩
     case hq6f0 => first | assumption | omega
     case hq6m => omega
    ·replace hb46 := of_decide_eq_false hb46
     have eT4 : (glN bl ab q i) = twG2 bl ab q := by (obtain rfl : i = 2 := (by omega)); rfl
     rw [eT4] at S50; clear eT4
     clear hi
     refine ws_exit rfl rfl ?_
     refine nm_sub [(0, _), (6, _), (7, _), (9, _)] ⟨rfl, rfl, rfl, rfl, trivial⟩ ?_
     refine nm_thn ?_
     refine ws_seqN Twist_n34 Twist_n35 rfl rfl rfl ?_
     refine ws_region rfl ?_
     refine wlm 0 1 rfl rfl rfl rfl rfl rfl rfl ?_
     refine wl_end rfl ?_
     refine nm_thn ?_
     refine ws_blockN Twist_n36 2 rfl rfl rfl ?_
     refine ws_loopE (fun mx_ ax_ wx_ => ∃ (i : Nat) (vply : Value), mx_ = 2 - 1 * i ∧ Env 76 [(0, .pointer (some ⟨gt, 0, none⟩)), (6, .int .i64 (q.pl.length : Int)), (7, .pointer (some ⟨gb2, 0, none⟩)), (9, .pointer (some ⟨gb4, 0, none⟩)), (59, .int .i64 (i : Int))] ax_ ∧ SH wx_ M X [Rs.box gb4 74 [.int .i64 1, .int .i64 3], Rs.box gb2 74 [.int .i64 1, .int .i64 3], Rs.box gt 72 [.bool (((enN bl (q.pl.length : Int) (twG2 bl ab q).E i) 0).ic), .int .i64 (((enN bl (q.pl.length : Int) (twG2 bl ab q).E i) 0).c), .int .i64 (((enN bl (q.pl.length : Int) (twG2 bl ab q).E i) 0).a), .int .i64 (((enN bl (q.pl.length : Int) (twG2 bl ab q).E i) 0).o), .bool (((enN bl (q.pl.length : Int) (twG2 bl ab q).E i) 1).ic), .int .i64 (((enN bl (q.pl.length : Int) (twG2 bl ab q).E i) 1).c), .int .i64 (((enN bl (q.pl.length : Int) (twG2 bl ab q).E i) 1).a), .int .i64 (((enN bl (q.pl.length : Int) (twG2 bl ab q).E i) 1).o), .bool (((enN bl (q.pl.length : Int) (twG2 bl ab q).E i) 2).ic), .int .i64 (((enN bl (q.pl.length : Int) (twG2 bl ab q).E i) 2).c), .int .i64 (((enN bl (q.pl.length : Int) (twG2 bl ab q).E i) 2).a), .int .i64 (((enN bl (q.pl.length : Int) (twG2 bl ab q).E i) 2).o), .bool (((enN bl (q.pl.length : Int) (twG2 bl ab q).E i) 3).ic), .int .i64 (((enN bl (q.pl.length : Int) (twG2 bl ab q).E i) 3).c), .int .i64 (((enN bl (q.pl.length : Int) (twG2 bl ab q).E i) 3).a), .int .i64 (((enN bl (q.pl.length : Int) (twG2 bl ab q).E i) 3).o), vply, .map (some gti), .int .i64 ((twG2 bl ab q).loops)], Rs.row cdA4 vply ((twG2 bl ab q).pl), Rs.mp (fun x => Value.agg (cdCo.f x).toArray) (fun x => Value.agg (cdCo.f x).toArray) gti ((twG2 bl ab q).ties)] ∧ i ≤ 2) rfl ?_ ?_
     ·intro ax_ hax_
      refine ⟨_, ⟨0, _, rfl, hax_.sub ⟨rfl, rfl, rfl, rfl, rfl, trivial⟩, S50.pick [0, 2, 3, 4, 5] [_, _, _, _, _] (by decide) ⟨rfl, rfl, rfl, rfl, rfl, trivial⟩, ?hq7f0⟩⟩
      case hq7f0 => first | assumption | omega
     ·rintro m4 a4 w59 ⟨i, vply, rfl, he4, S68, hi⟩
      clear S50
      refine ws_in he4 (c := Twist_n37) rfl ?_
      clear he4 a4
      refine ws_seqN Twist_n38 Twist_n39 rfl rfl rfl ?_
      refine ws_region rfl ?_
      refine wlo 0 1 rfl rfl rfl (wo_run rfl rfl (run_lss rfl rfl rfl) ?_)
      refine wl_end rfl ?_
      refine nm_thn ?_
      refine ws_seqN Twist_n40 Twist_n41 rfl rfl rfl ?_
      refine ws_condN Twist_n42 Twist_n43 rfl rfl rfl rfl (fun hb60 => ?_) (fun hb60 => ?_)
      ·replace hb60 := of_decide_eq_true hb60
       refine ws_skip rfl ?_
       refine nm_sub [(0, _), (6, _), (7, _), (9, _), (59, _)] ⟨rfl, rfl, rfl, rfl, rfl, trivial⟩ ?_
       refine nm_thn ?_
       refine ws_seqN Twist_n44 Twist_n45 rfl rfl rfl ?_
       refine ws_blockN Twist_n46 3 rfl rfl rfl ?_
       refine ws_seqN Twist_n47 Twist_n48 rfl rfl rfl ?_
       refine ws_region rfl ?_
       refine wlm 0 1 rfl rfl rfl rfl rfl rfl rfl ?_
       refine wla 1 2 rfl rfl rfl rfl rfl rfl rfl ?_
       refine wl_end rfl ?_
       refine nm_sub [(0, _), (6, _), (7, _), (9, _), (59, _), (11, _)] ⟨rfl, rfl, rfl, rfl, rfl, rfl, trivial⟩ ?_
       refine nm_thn ?_
       refine ws_draw rfl (by kernel_rfl) S68 14 rfl ?_
       clear S68
       refine wa_takeP (i := 0) (d := 62) 13 rfl (by kernel_rfl) (by kernel_rfl) (by kernel_rfl) rfl rfl rfl (fun w60 => run_move rfl rfl) ?_
       refine wa_takeP (i := 1) (d := 63) 12 rfl (by kernel_rfl) (by kernel_rfl) (by kernel_rfl) rfl rfl rfl (fun w61 => run_move rfl rfl) ?_
       refine wa_take (i := 2) (d := 64) 11 rfl (by kernel_rfl) (by kernel_rfl) (by kernel_rfl) rfl rfl rfl (fun M39 N37 w62 hle43 S71 => .inl (run_indexP (e := i) (k := 1) rfl rfl rfl Try.underlying74 sz3 (by first | rfl | omega) (by first | omega | (simp only [lens]; omega)))) ?_
       refine wa_take (i := 3) (d := 65) 10 rfl (by kernel_rfl) (by kernel_rfl) (by kernel_rfl) rfl rfl rfl (fun M40 N38 w63 hle44 S72 => .inl (run_load1 rfl rfl Try.underlying3 rfl (S72.suf.boxc (i := 1) rfl (nth_v2 (by omega))))) ?_
       refine wa_takeP (i := 4) (d := 66) 9 rfl (by kernel_rfl) (by kernel_rfl) (by kernel_rfl) rfl rfl rfl (fun w64 => run_move rfl rfl) ?_
       refine wa_takeP (i := 5) (d := 67) 8 rfl (by kernel_rfl) (by kernel_rfl) (by kernel_rfl) rfl rfl rfl (fun w65 => run_move rfl rfl) ?_
       refine wa_take (i := 6) (d := 68) 7 rfl (by kernel_rfl) (by kernel_rfl) (by kernel_rfl) rfl rfl rfl (fun M43 N41 w66 hle47 S75 => .inl (run_indexP (e := i) (k := 1) rfl rfl rfl Try.underlying74 sz3 (by first | rfl | omega) (by first | omega | (simp only [lens]; omega)))) ?_
       refine wa_take (i := 7) (d := 69) 6 rfl (by kernel_rfl) (by kernel_rfl) (by kernel_rfl) rfl rfl rfl (fun M44 N42 w67 hle48 S76 => .inl (run_load1 rfl rfl Try.underlying3 rfl (S76.suf.boxc (i := 0) rfl (nth_v2 (by first | omega | (simp only [lens]; omega)))))) ?_
       refine wa_take (i := 8) (d := 70) 5 rfl (by kernel_rfl) (by kernel_rfl) (by kernel_rfl) rfl rfl rfl (fun M45 N43 w68 hle49 S77 => .inl (run_build (l := [_, _]) rfl rfl st65 rfl rfl)) ?_
       refine wa_take (i := 9) (d := 71) 4 rfl (by kernel_rfl) (by kernel_rfl) (by kernel_rfl) rfl rfl rfl (fun M46 N44 w69 hle50 S78 => .inl (run_build (l := [_, _, _, _]) rfl rfl st67 rfl rfl)) ?_
       refine wa_takeP (i := 10) (d := 72) 3 rfl (by kernel_rfl) (by kernel_rfl) (by kernel_rfl) rfl rfl rfl (fun w70 => run_nilCheck rfl rfl) ?_
       refine wa_takeP (i := 11) (d := 73) 2 rfl (by kernel_rfl) (by kernel_rfl) (by kernel_rfl) rfl rfl rfl (fun w71 => run_fieldAddr rfl rfl Try.underlying72 rfl (ce68) (nf68)) ?_
       refine wa_take (i := 12) (d := 74) 1 rfl (by kernel_rfl) (by kernel_rfl) (by kernel_rfl) rfl rfl rfl (fun M49 N47 w72 hle53 S81 => .inl (run_indexP (e := (ga ([1, 3] : List Int) i).toNat) (k := 4) rfl rfl rfl Try.underlying68 sz67 (by (obtain rfl | rfl : i = 0 ∨ i = 1 := by omega) <;> decide) (by (obtain rfl | rfl : i = 0 ∨ i = 1 := by omega) <;> decide))) ?_
       refine wa_only (i := 13) 0 rfl (by kernel_rfl) rfl rfl (fun w74 S83 => ?_)
       refine (wo_storeB (i := 2) (us := [_, _, _, _]) (l' := [.bool ((upd (enN bl (q.pl.length : Int) (twG2 bl ab q).E i) ((ga ([1, 3] : List Int) i).toNat) (⟨true, (q.pl.length : Int), ga ([1, 3] : List Int) i, 0⟩ : En) 0).ic), .int .i64 ((upd (enN bl (q.pl.length : Int) (twG2 bl ab q).E i) ((ga ([1, 3] : List Int) i).toNat) (⟨true, (q.pl.length : Int), ga ([1, 3] : List Int) i, 0⟩ : En) 0).c), .int .i64 ((upd (enN bl (q.pl.length : Int) (twG2 bl ab q).E i) ((ga ([1, 3] : List Int) i).toNat) (⟨true, (q.pl.length : Int), ga ([1, 3] : List Int) i, 0⟩ : En) 0).a), .int .i64 ((upd (enN bl (q.pl.length : Int) (twG2 bl ab q).E i) ((ga ([1, 3] : List Int) i).toNat) (⟨true, (q.pl.length : Int), ga ([1, 3] : List Int) i, 0⟩ : En) 0).o), .bool ((upd (enN bl (q.pl.length : Int) (twG2 bl ab q).E i) ((ga ([1, 3] : List Int) i).toNat) (⟨true, (q.pl.length : Int), ga ([1, 3] : List Int) i, 0⟩ : En) 1).ic), .int .i64 ((upd (enN bl (q.pl.length : Int) (twG2 bl ab q).E i) ((ga ([1, 3] : List Int) i).toNat) (⟨true, (q.pl.length : Int), ga ([1, 3] : List Int) i, 0⟩ : En) 1).c), .int .i64 ((upd (enN bl (q.pl.length : Int) (twG2 bl ab q).E i) ((ga ([1, 3] : List Int) i).toNat) (⟨true, (q.pl.length : Int), ga ([1, 3] : List Int) i, 0⟩ : En) 1).a), .int .i64 ((upd (enN bl (q.pl.length : Int) (twG2 bl ab q).E i) ((ga ([1, 3] : List Int) i).toNat) (⟨true, (q.pl.length : Int), ga ([1, 3] : List Int) i, 0⟩ : En) 1).o), .bool ((upd (enN bl (q.pl.length : Int) (twG2 bl ab q).E i) ((ga ([1, 3] : List Int) i).toNat) (⟨true, (q.pl.length : Int), ga ([1, 3] : List Int) i, 0⟩ : En) 2).ic), .int .i64 ((upd (enN bl (q.pl.length : Int) (twG2 bl ab q).E i) ((ga ([1, 3] : List Int) i).toNat) (⟨true, (q.pl.length : Int), ga ([1, 3] : List Int) i, 0⟩ : En) 2).c), .int .i64 ((upd (enN bl (q.pl.length : Int) (twG2 bl ab q).E i) ((ga ([1, 3] : List Int) i).toNat) (⟨true, (q.pl.length : Int), ga ([1, 3] : List Int) i, 0⟩ : En) 2).a), .int .i64 ((upd (enN bl (q.pl.length : Int) (twG2 bl ab q).E i) ((ga ([1, 3] : List Int) i).toNat) (⟨true, (q.pl.length : Int), ga ([1, 3] : List Int) i, 0⟩ : En) 2).o), .bool ((upd (enN bl (q.pl.length : Int) (twG2 bl ab q).E i) ((ga ([1, 3] : List Int) i).toNat) (⟨true, (q.pl.length : Int), ga ([1, 3] : List Int) i, 0⟩ : En) 3).ic), .int .i64 ((upd (enN bl (q.pl.length : Int) (twG2 bl ab q).E i) ((ga ([1, 3] : List Int) i).toNat) (⟨true, (q.pl.length : Int), ga ([1, 3] : List Int) i, 0⟩ : En) 3).c), .int .i64 ((upd (enN bl (q.pl.length : Int) (twG2 bl ab q).E i) ((ga ([1, 3] : List Int) i).toNat) (⟨true, (q.pl.length : Int), ga ([1, 3] : List Int) i, 0⟩ : En) 3).a), .int .i64 ((upd (enN bl (q.pl.length : Int) (twG2 bl ab q).E i) ((ga ([1, 3] : List Int) i).toNat) (⟨true, (q.pl.length : Int), ga ([1, 3] : List Int) i, 0⟩ : En) 3).o), vply, .map (some gti), .int .i64 ((twG2 bl ab q).loops)]) (H' := [_, _, _, _, _]) rfl rfl S83 rfl rfl rfl rfl sz67 (ble_en (by (obtain rfl | rfl : i = 0 ∨ i = 1 := by omega) <;> decide)) rfl (spl_en (enN bl (q.pl.length : Int) (twG2 bl ab q).E i) (⟨true, (q.pl.length : Int), ga ([1, 3] : List Int) i, 0⟩ : En) ((ga ([1, 3] : List Int) i).toNat) (by (obtain rfl | rfl : i = 0 ∨ i = 1 := by omega) <;> decide)) rfl ?_)
       intro w75 S84; clear S83
       refine LeftW.turn (by kernel_rfl) S84 ?_; clear S84
       change WA _ _ _ _ _ _ _ _ _ _ _ _ [_, _, _, _, _]
       refine wa_end (by kernel_rfl) (fun w76 S85 => ?_)
       refine nm_blk ?_
       refine nm_sub [(0, _), (6, _), (7, _), (9, _), (59, _)] ⟨rfl, rfl, rfl, rfl, rfl, trivial⟩ ?_
       refine nm_thn ?_
       refine ws_region rfl ?_
       refine wlo 0 1 rfl rfl rfl (wo_run rfl rfl (run_add rfl rfl rfl (by first | omega | (simp only [lens]; omega))) ?_)
       refine wlm 1 2 rfl rfl rfl rfl rfl rfl rfl ?_
       refine wl_end rfl ?_
       refine nm_lp ?_
       have eE2 : upd (enN bl (q.pl.length : Int) (twG2 bl ab q).E i) ((ga ([1, 3] : List Int) i).toNat) (⟨true, (q.pl.length : Int), ga ([1, 3] : List Int) i, 0⟩ : En) = enN bl (q.pl.length : Int) (twG2 bl ab q).E (i + 1) := by (obtain rfl | rfl : i = 0 ∨ i = 1 := by omega) <;> (rw [hb41]; rfl)
       rw [eE2] at S85; clear eE2
       intro ax_ hax_
       refine ⟨_, ?hq8m, ⟨i + 1, _, rfl, hax_.sub ⟨rfl, rfl, rfl, rfl, rfl, trivial⟩, S85.pick [0, 1, 2, 3, 4] [_, _, _, _, _] (by decide) ⟨rfl, rfl, rfl, rfl, rfl, trivial⟩, ?hq8f0⟩⟩
       case hq8f0 => first | assumption | omega
       case hq8m => omega
      ·replace hb60 := of_decide_eq_false hb60
       refine ws_exit rfl rfl ?_
       refine nm_end hC [] rfl trivial ?_
       refine ⟨_, rfl, _, _, Hp.le_refl _, (S68.pick [2, 3, 4] [_, _, _] (by decide) ⟨rfl, rfl, rfl, trivial⟩).bun, ?_⟩
       have e3 : twG bl ab q = ⟨(enN bl (q.pl.length : Int) (twG2 bl ab q).E i), (twG2 bl ab q).pl, (twG2 bl ab q).ties, (twG2 bl ab q).loops⟩ := by (obtain rfl : i = 2 := (by omega)); rfl
       rw [e3]
       exact ⟨rfl, rfl, _, rfl⟩
 ·refine ws_region rfl ?_
  refine wlm 0 1 rfl rfl rfl rfl rfl rfl rfl ?_
  refine wlm 1 2 rfl rfl rfl rfl rfl rfl rfl ?_
  refine wlo 2 3 rfl rfl rfl (wo_run rfl rfl (run_nilCheck rfl rfl) ?_)
  refine wlo 3 4 rfl rfl rfl (wo_run rfl rfl (run_fieldAddr rfl rfl Try.underlying72 rfl (ce70) (nf70)) ?_)
  refine wlo 4 5 rfl rfl rfl (wo_run rfl rfl (run_load1 rfl rfl Try.underlying70 rfl (S.boxc (i := 0) rfl rfl)) ?_)
  refine wlo 5 6 rfl rfl rfl (wo_run rfl rfl (run_buildA (l := [_, _, _, _]) (pl := [(0, 1), (1, 1), (2, 1), (3, 1)]) rfl rfl Try.underlying73 zr73 sz3 rfl rfl rfl) ?_)
  refine wlo 6 7 rfl rfl rfl (wo_buildSlice1 (C := cdA4) (l := [_, _, _, _]) rfl rfl rfl rfl sl70 rfl rfl rfl rfl S ?_)
  intro gb5 w77 S86; clear S
  refine wlo 7 8 rfl rfl rfl (wo_append1 (C := cdA4) (i := 2) (q := 0) (⟨2, 3, 1, 0⟩ : A4) rfl rfl rfl rfl rfl rfl rfl rfl sl70 S86 rfl rfl rfl (by show (_ + 1) * 32 ≤ _; first | omega | (simp only [lens]; omega)) ?_)
  intro vpl2 w78 S87; clear S86
  have S88 := S87.pick [1, 2, 3] [_, _, _] (by decide) ⟨rfl, rfl, rfl, trivial⟩; clear S87
  refine wlo 8 9 rfl rfl rfl (wo_run rfl rfl (run_nilCheck rfl rfl) ?_)
  refine wlo 9 10 rfl rfl rfl (wo_run rfl rfl (run_fieldAddr rfl rfl Try.underlying72 rfl (ce70) (nf70)) ?_)
  refine wlo 10 11 rfl rfl rfl (wo_storeB (i := 0) (us := [_]) (l' := [_, _, _, _, _, _, _, _, _, _, _, _, _, _, _, _, _, _, _]) (H' := [_, _, _]) rfl rfl S88 rfl rfl rfl (S88.cells1 (i := 1) rfl) sz70 rfl (ones_cons (S88.one (i := 1) rfl) rfl) rfl rfl ?_)
  intro w79 S89; clear S88
  refine wl_end rfl ?_
  refine nm_sub [(0, _), (1, _), (6, _)] ⟨rfl, rfl, rfl, trivial⟩ ?_
  refine nm_thn ?_
  refine ws_seqN Twist_n9 Twist_n10 rfl rfl rfl ?_
  have hrc2 : q.pl ++ [(⟨2, 3, 1, 0⟩ : A4)] = q.pl ++ [pla ab] := by rw [hb17]; rfl
  rw [hrc2] at S89; clear hrc2
  refine ws_region rfl ?_
  refine wlo 0 1 rfl rfl rfl (wo_run rfl rfl (run_buildA (l := [_, _]) (pl := [(0, 1), (1, 1)]) rfl rfl Try.underlying74 zr74 sz3 rfl rfl rfl) ?_)
  refine wlo 1 2 rfl rfl rfl (wo_run rfl rfl (run_buildA (l := [_, _]) (pl := [(0, 1), (1, 1)]) rfl rfl Try.underlying74 zr74 sz3 rfl rfl rfl) ?_)
  refine wlo 2 3 rfl rfl rfl (wo_run rfl rfl (run_buildA (l := [_, _]) (pl := [(0, 1), (1, 1)]) rfl rfl Try.underlying74 zr74 sz3 rfl rfl rfl) ?_)
  refine wlo 3 4 rfl rfl rfl (wo_alloc (l := [_, _]) rfl rfl rfl zr74 rfl S89 ?_)
  intro gb6 w80 S90; clear S89
  refine wlo 4 5 rfl rfl rfl (wo_alloc (l := [_, _]) rfl rfl rfl zr74 rfl S90 ?_)
  intro gb7 w81 S91; clear S90
  refine wlo 5 6 rfl rfl rfl (wo_alloc (l := [_, _]) rfl rfl rfl zr74 rfl S91 ?_)
  intro gb8 w82 S92; clear S91
  refine wlo 6 7 rfl rfl rfl (wo_storeB (i := 2) (us := [_, _]) (l' := [_, _]) (H' := [_, _, _, _, _, _]) rfl rfl S92 rfl rfl rfl rfl sz74 rfl rfl rfl rfl ?_)
  intro w83 S93; clear S92
  refine wlo 7 8 rfl rfl rfl (wo_storeB (i := 1) (us := [_, _]) (l' := [_, _]) (H' := [_, _, _, _, _, _]) rfl rfl S93 rfl rfl rfl rfl sz74 rfl rfl rfl rfl ?_)
  intro w84 S94; clear S93
  refine wlo 8 9 rfl rfl rfl (wo_storeB (i := 0) (us := [_, _]) (l' := [_, _]) (H' := [_, _, _, _, _, _]) rfl rfl S94 rfl rfl rfl rfl sz74 rfl rfl rfl rfl ?_)
  intro w85 S95; clear S94
  refine wl_end rfl ?_
  refine nm_sub [(0, _), (1, _), (6, _), (7, _), (8, _), (9, _)] ⟨rfl, rfl, rfl, rfl, rfl, rfl, trivial⟩ ?_
  refine nm_thn ?_
  refine ws_seqN Twist_n11 Twist_n12 rfl rfl rfl ?_
  refine ws_seqN Twist_n13 Twist_n14 rfl rfl rfl ?_
  refine ws_region rfl ?_
  refine wlm 0 1 rfl rfl rfl rfl rfl rfl rfl ?_
  refine wl_end rfl ?_
  refine nm_sub [(0, _), (6, _), (7, _), (8, _), (9, _), (41, _)] ⟨rfl, rfl, rfl, rfl, rfl, rfl, trivial⟩ ?_
  refine nm_thn ?_
  refine ws_condN Twist_n15 Twist_n16 rfl rfl rfl rfl (fun hb41 => ?_) (fun hb41 => ?_)
  ·refine ws_region rfl ?_
   refine wlo 0 1 rfl rfl rfl (wo_run rfl rfl (run_buildA (l := [_, _]) (pl := [(0, 1), (1, 1)]) rfl rfl Try.underlying74 zr74 sz3 rfl rfl rfl) ?_)
   refine wlo 1 2 rfl rfl rfl (wo_run rfl rfl (run_buildA (l := [_, _]) (pl := [(0, 1), (1, 1)]) rfl rfl Try.underlying74 zr74 sz3 rfl rfl rfl) ?_)
   refine wlo 2 3 rfl rfl rfl (wo_run rfl rfl (run_buildA (l := [_, _]) (pl := [(0, 1), (1, 1)]) rfl rfl Try.underlying74 zr74 sz3 rfl rfl rfl) ?_)
   refine wlo 3 4 rfl rfl rfl (wo_storeB (i := 2) (us := [_, _]) (l' := [_, _]) (H' := [_, _, _, _, _, _]) rfl rfl S95 rfl rfl rfl rfl sz74 rfl rfl rfl rfl ?_)
   intro w86 S96; clear S95
   refine wlo 4 5 rfl rfl rfl (wo_storeB (i := 1) (us := [_, _]) (l' := [_, _]) (H' := [_, _, _, _, _, _]) rfl rfl S96 rfl rfl rfl rfl sz74 rfl rfl rfl rfl ?_)
   intro w87 S97; clear S96
   refine wlo 5 6 rfl rfl rfl (wo_storeB (i := 0) (us := [_, _]) (l' := [_, _]) (H' := [_, _, _, _, _, _]) rfl rfl S97 rfl rfl rfl rfl sz74 rfl rfl rfl rfl ?_)
   intro w88 S98; clear S97
   refine wl_end rfl ?_
   refine nm_sub [(0, _), (6, _), (7, _), (8, _), (9, _)] ⟨rfl, rfl, rfl, rfl, rfl, trivial⟩ ?_
   refine nm_thn ?_
   refine ws_seqN Twist_n17 Twist_n18 rfl rfl rfl ?_
   refine ws_seqN Twist_n19 Twist_n20 rfl rfl rfl ?_
   refine ws_region rfl ?_
   refine wlm 0 1 rfl rfl rfl rfl rfl rfl rfl ?_
   refine wl_end rfl ?_
   refine nm_thn ?_
   refine ws_blockN Twist_n21 0 rfl rfl rfl ?_
   refine ws_loopE (fun mx_ ax_ wx_ => ∃ (i : Nat) (vplx : Value), mx_ = 2 - 1 * i ∧ Env 76 [(0, .pointer (some ⟨gt, 0, none⟩)), (6, .int .i64 (q.pl.length : Int)), (7, .pointer (some ⟨gb6, 0, none⟩)), (8, .pointer (some ⟨gb7, 0, none⟩)), (9, .pointer (some ⟨gb8, 0, none⟩)), (45, .int .i64 (i : Int))] ax_ ∧ SH wx_ M X [Rs.box gb8 74 [.int .i64 2, .int .i64 3], Rs.box gb7 74 [.int .i64 0, .int .i64 1], Rs.box gb6 74 [.int .i64 2, .int .i64 3], Rs.box gt 72 [.bool (((glN bl ab q i).E 0).ic), .int .i64 (((glN bl ab q i).E 0).c), .int .i64 (((glN bl ab q i).E 0).a), .int .i64 (((glN bl ab q i).E 0).o), .bool (((glN bl ab q i).E 1).ic), .int .i64 (((glN bl ab q i).E 1).c), .int .i64 (((glN bl ab q i).E 1).a), .int .i64 (((glN bl ab q i).E 1).o), .bool (((glN bl ab q i).E 2).ic), .int .i64 (((glN bl ab q i).E 2).c), .int .i64 (((glN bl ab q i).E 2).a), .int .i64 (((glN bl ab q i).E 2).o), .bool (((glN bl ab q i).E 3).ic), .int .i64 (((glN bl ab q i).E 3).c), .int .i64 (((glN bl ab q i).E 3).a), .int .i64 (((glN bl ab q i).E 3).o), vplx, .map (some gti), .int .i64 ((glN bl ab q i).loops)], Rs.row cdA4 vplx ((glN bl ab q i).pl), Rs.mp (fun x => Value.agg (cdCo.f x).toArray) (fun x => Value.agg (cdCo.f x).toArray) gti ((glN bl ab q i).ties)] ∧ i ≤ 2) rfl ?_ ?_
   ·intro ax_ hax_
    refine ⟨_, ⟨0, _, rfl, hax_.sub ⟨rfl, rfl, rfl, rfl, rfl, rfl, trivial⟩, S98.pick [0, 1, 2, 3, 4, 5] [_, _, _, _, _, _] (by decide) ⟨rfl, rfl, rfl, rfl, rfl, rfl, trivial⟩, ?hq9f0⟩⟩
    case hq9f0 => first | assumption | omega
   ·rintro m5 a5 w89 ⟨i, vplx, rfl, he5, S99, hi⟩
    clear S98
    refine ws_in he5 (c := Twist_n22) rfl ?_
    clear he5 a5
    have hEi := hE.glN bl ab i
    have hpli : (q.pl ++ [pla ab]).length = q.pl.length + 1 := by simp
    refine ws_seqN Twist_n23 Twist_n24 rfl rfl rfl ?_
    refine ws_region rfl ?_
    refine wlo 0 1 rfl rfl rfl (wo_run rfl rfl (run_lss rfl rfl rfl) ?_)
    refine wl_end rfl ?_
    refine nm_thn ?_
    refine ws_seqN Twist_n25 Twist_n26 rfl rfl rfl ?_
    refine ws_condN Twist_n27 Twist_n28 rfl rfl rfl rfl (fun hb46 => ?_) (fun hb46 => ?_)
    ·replace hb46 := of_decide_eq_true hb46
     refine ws_skip rfl ?_
     refine nm_sub [(0, _), (6, _), (7, _), (8, _), (9, _), (45, _)] ⟨rfl, rfl, rfl, rfl, rfl, rfl, trivial⟩ ?_
     refine nm_thn ?_
     refine ws_seqN Twist_n29 Twist_n30 rfl rfl rfl ?_
     refine ws_blockN Twist_n31 1 rfl rfl rfl ?_
     refine ws_seqN Twist_n32 Twist_n33 rfl rfl rfl ?_
     refine ws_region rfl ?_
     refine wlm 0 1 rfl rfl rfl rfl rfl rfl rfl ?_
     refine wla 1 2 rfl rfl rfl rfl rfl rfl rfl ?_
     refine wl_end rfl ?_
     refine nm_sub [(0, _), (6, _), (7, _), (8, _), (9, _), (45, _), (10, _)] ⟨rfl, rfl, rfl, rfl, rfl, rfl, rfl, trivial⟩ ?_
     refine nm_thn ?_
     refine ws_draw rfl (by kernel_rfl) S99 10 rfl ?_
     clear S99
     refine wa_takeP (i := 0) (d := 48) 9 rfl (by kernel_rfl) (by kernel_rfl) (by kernel_rfl) rfl rfl rfl (fun w90 => run_move rfl rfl) ?_
     refine wa_takeP (i := 1) (d := 49) 8 rfl (by kernel_rfl) (by kernel_rfl) (by kernel_rfl) rfl rfl rfl (fun w91 => run_move rfl rfl) ?_
     refine wa_take (i := 2) (d := 50) 7 rfl (by kernel_rfl) (by kernel_rfl) (by kernel_rfl) rfl rfl rfl (fun M53 N51 w92 hle58 S102 => .inl (run_indexP (e := i) (k := 1) rfl rfl rfl Try.underlying74 sz3 (by first | rfl | omega) (by first | omega | (simp only [lens]; omega)))) ?_
     refine wa_take (i := 3) (d := 51) 6 rfl (by kernel_rfl) (by kernel_rfl) (by kernel_rfl) rfl rfl rfl (fun M54 N52 w93 hle59 S103 => .inl (run_load1 rfl rfl Try.underlying3 rfl (S103.suf.boxc (i := 2) rfl (nth_v2 (by first | omega | (simp only [lens]; omega)))))) ?_
     refine wa_takeP (i := 4) (d := 52) 5 rfl (by kernel_rfl) (by kernel_rfl) (by kernel_rfl) rfl rfl rfl (fun w94 => run_move rfl rfl) ?_
     refine wa_takeP (i := 5) (d := 53) 4 rfl (by kernel_rfl) (by kernel_rfl) (by kernel_rfl) rfl rfl rfl (fun w95 => run_move rfl rfl) ?_
     refine wa_take (i := 6) (d := 54) 3 rfl (by kernel_rfl) (by kernel_rfl) (by kernel_rfl) rfl rfl rfl (fun M57 N55 w96 hle62 S106 => .inl (run_indexP (e := i) (k := 1) rfl rfl rfl Try.underlying74 sz3 (by first | rfl | omega) (by first | omega | (simp only [lens]; omega)))) ?_
     refine wa_take (i := 7) (d := 55) 2 rfl (by kernel_rfl) (by kernel_rfl) (by kernel_rfl) rfl rfl rfl (fun M58 N56 w97 hle63 S107 => .inl (run_load1 rfl rfl Try.underlying3 rfl (S107.suf.boxc (i := 1) rfl (nth_v2 (by first | omega | (simp only [lens]; omega)))))) ?_
     refine wa_take (i := 8) (d := 56) 1 rfl (by kernel_rfl) (by kernel_rfl) (by kernel_rfl) rfl rfl rfl (fun M59 N57 w98 hle64 S108 => .inl (run_build (l := [_, _]) rfl rfl st65 rfl rfl)) ?_
     refine wa_only (i := 9) 0 rfl (by kernel_rfl) rfl rfl (fun w100 S110 => ?_)
     have S111 := S110.pick [3, 4, 5, 0, 1, 2] [_, _, _, _, _, _] (by decide) ⟨rfl, rfl, rfl, rfl, rfl, rfl, trivial⟩; clear S110
     have S112 : SH _ _ _ (Rs.bun [_, _, _] :: [_, _, _]) := SH.bunC (A := [_, _, _]) (B := [_, _, _]) S111; clear S111
     have S113 : SH _ _ _ [_, _, _, _] := S112.less (i := 0) rfl
     have hcall3 := Glue_b (q := (glN bl ab q i)) ((ga ([2, 3] : List Int) i).toNat) ⟨(q.pl.length : Int), ga ([0, 1] : List Int) i⟩ (by exact hEi) (by (obtain rfl | rfl : i = 0 ∨ i = 1 := by omega) <;> decide) (S112.lend1 (i := 0) rfl); clear S113
     rw [show (((ga ([2, 3] : List Int) i).toNat : Nat) : Int) = ga ([2, 3] : List Int) i from (by (obtain rfl | rfl : i = 0 ∨ i = 1 := by omega) <;> decide)] at hcall3
     refine (wo_c1 (i := 0) rfl rfl rfl rfl rfl rfl rfl cf33 S112 rfl hcall3 ?_)
     intro vw101 w101 M61 rw101 hle66 S114 hR5; clear S112
     obtain ⟨huhMX3, hMX3, hR6⟩ := hR5
     rw [hMX3] at S114
     clear hMX3
     subst huhMX3
     subst hR6
     replace S114 : SH _ _ _ (Rs.bun [_, _, _] :: [_, _, _]) := S114
     have S115 : SH _ _ _ [_, _, _, _, _, _] := SH.unbunC (A := [_, _, _]) (B := [_, _, _]) S114; clear S114
     have eT5 : glueG (glN bl ab q i) ((ga ([2, 3] : List Int) i).toNat) ⟨(q.pl.length : Int), ga ([0, 1] : List Int) i⟩ = (glN bl ab q (i + 1)) := by (obtain rfl | rfl : i = 0 ∨ i = 1 := by omega) <;> (rw [hb41]; rfl)
     rw [eT5] at S115; clear eT5
     refine LeftW.turn (by kernel_rfl) S115 ?_; clear S115
     change WA _ _ _ _ _ _ _ _ _ _ _ _ [_, _, _, _, _, _]
     refine wa_end (by kernel_rfl) (fun w102 S116 => ?_)
     refine nm_blk ?_
     refine nm_sub [(0, _), (6, _), (7, _), (8, _), (9, _), (45, _)] ⟨rfl, rfl, rfl, rfl, rfl, rfl, trivial⟩ ?_
     refine nm_thn ?_
     refine ws_region rfl ?_
     refine wlo 0 1 rfl rfl rfl (wo_run rfl rfl (run_add rfl rfl rfl (by first | omega | (simp only [lens]; omega))) ?_)
     refine wlm 1 2 rfl rfl rfl rfl rfl rfl rfl ?_
     refine wl_end rfl ?_
     refine nm_lp ?_
     intro ax_ hax_
     refine ⟨_, ?hq10m, ⟨i + 1, _, rfl, hax_.sub ⟨rfl, rfl, rfl, rfl, rfl, rfl, trivial⟩, S116.pick [3, 4, 5, 0, 1, 2] [_, _, _, _, _, _] (by decide) ⟨rfl, rfl, rfl, rfl, rfl, rfl, trivial⟩, ?hq10f0⟩⟩
     case hq10f0 => first | assumption | omega
     case hq10m => omega
    ·replace hb46 := of_decide_eq_false hb46
     have eT6 : (glN bl ab q i) = twG2 bl ab q := by (obtain rfl : i = 2 := (by omega)); rfl
     rw [eT6] at S99; clear eT6
     clear hi
     refine ws_exit rfl rfl ?_
     refine nm_sub [(0, _), (6, _), (7, _), (9, _)] ⟨rfl, rfl, rfl, rfl, trivial⟩ ?_
     refine nm_thn ?_
     refine ws_seqN Twist_n34 Twist_n35 rfl rfl rfl ?_
     refine ws_region rfl ?_
     refine wlm 0 1 rfl rfl rfl rfl rfl rfl rfl ?_
     refine wl_end rfl ?_
     refine nm_thn ?_
     refine ws_blockN Twist_n36 2 rfl rfl rfl ?_
     refine ws_loopE (fun mx_ ax_ wx_ => ∃ (i : Nat) (vply : Value), mx_ = 2 - 1 * i ∧ Env 76 [(0, .pointer (some ⟨gt, 0, none⟩)), (6, .int .i64 (q.pl.length : Int)), (7, .pointer (some ⟨gb6, 0, none⟩)), (9, .pointer (some ⟨gb8, 0, none⟩)), (59, .int .i64 (i : Int))] ax_ ∧ SH wx_ M X [Rs.box gb8 74 [.int .i64 2, .int .i64 3], Rs.box gb6 74 [.int .i64 2, .int .i64 3], Rs.box gt 72 [.bool (((enN bl (q.pl.length : Int) (twG2 bl ab q).E i) 0).ic), .int .i64 (((enN bl (q.pl.length : Int) (twG2 bl ab q).E i) 0).c), .int .i64 (((enN bl (q.pl.length : Int) (twG2 bl ab q).E i) 0).a), .int .i64 (((enN bl (q.pl.length : Int) (twG2 bl ab q).E i) 0).o), .bool (((enN bl (q.pl.length : Int) (twG2 bl ab q).E i) 1).ic), .int .i64 (((enN bl (q.pl.length : Int) (twG2 bl ab q).E i) 1).c), .int .i64 (((enN bl (q.pl.length : Int) (twG2 bl ab q).E i) 1).a), .int .i64 (((enN bl (q.pl.length : Int) (twG2 bl ab q).E i) 1).o), .bool (((enN bl (q.pl.length : Int) (twG2 bl ab q).E i) 2).ic), .int .i64 (((enN bl (q.pl.length : Int) (twG2 bl ab q).E i) 2).c), .int .i64 (((enN bl (q.pl.length : Int) (twG2 bl ab q).E i) 2).a), .int .i64 (((enN bl (q.pl.length : Int) (twG2 bl ab q).E i) 2).o), .bool (((enN bl (q.pl.length : Int) (twG2 bl ab q).E i) 3).ic), .int .i64 (((enN bl (q.pl.length : Int) (twG2 bl ab q).E i) 3).c), .int .i64 (((enN bl (q.pl.length : Int) (twG2 bl ab q).E i) 3).a), .int .i64 (((enN bl (q.pl.length : Int) (twG2 bl ab q).E i) 3).o), vply, .map (some gti), .int .i64 ((twG2 bl ab q).loops)], Rs.row cdA4 vply ((twG2 bl ab q).pl), Rs.mp (fun x => Value.agg (cdCo.f x).toArray) (fun x => Value.agg (cdCo.f x).toArray) gti ((twG2 bl ab q).ties)] ∧ i ≤ 2) rfl ?_ ?_
     ·intro ax_ hax_
      refine ⟨_, ⟨0, _, rfl, hax_.sub ⟨rfl, rfl, rfl, rfl, rfl, trivial⟩, S99.pick [0, 2, 3, 4, 5] [_, _, _, _, _] (by decide) ⟨rfl, rfl, rfl, rfl, rfl, trivial⟩, ?hq11f0⟩⟩
      case hq11f0 => first | assumption | omega
     ·rintro m6 a6 w103 ⟨i, vply, rfl, he6, S117, hi⟩
      clear S99
      refine ws_in he6 (c := Twist_n37) rfl ?_
      clear he6 a6
      refine ws_seqN Twist_n38 Twist_n39 rfl rfl rfl ?_
      refine ws_region rfl ?_
      refine wlo 0 1 rfl rfl rfl (wo_run rfl rfl (run_lss rfl rfl rfl) ?_)
      refine wl_end rfl ?_
      refine nm_thn ?_
      refine ws_seqN Twist_n40 Twist_n41 rfl rfl rfl ?_
      refine ws_condN Twist_n42 Twist_n43 rfl rfl rfl rfl (fun hb60 => ?_) (fun hb60 => ?_)
      ·replace hb60 := of_decide_eq_true hb60
       refine ws_skip rfl ?_
       refine nm_sub [(0, _), (6, _), (7, _), (9, _), (59, _)] ⟨rfl, rfl, rfl, rfl, rfl, trivial⟩ ?_
       refine nm_thn ?_
       refine ws_seqN Twist_n44 Twist_n45 rfl rfl rfl ?_
       refine ws_blockN Twist_n46 3 rfl rfl rfl ?_
       refine ws_seqN Twist_n47 Twist_n48 rfl rfl rfl ?_
       refine ws_region rfl ?_
       refine wlm 0 1 rfl rfl rfl rfl rfl rfl rfl ?_
       refine wla 1 2 rfl rfl rfl rfl rfl rfl rfl ?_
       refine wl_end rfl ?_
       refine nm_sub [(0, _), (6, _), (7, _), (9, _), (59, _), (11, _)] ⟨rfl, rfl, rfl, rfl, rfl, rfl, trivial⟩ ?_
       refine nm_thn ?_
       refine ws_draw rfl (by kernel_rfl) S117 14 rfl ?_
       clear S117
       refine wa_takeP (i := 0) (d := 62) 13 rfl (by kernel_rfl) (by kernel_rfl) (by kernel_rfl) rfl rfl rfl (fun w104 => run_move rfl rfl) ?_
       refine wa_takeP (i := 1) (d := 63) 12 rfl (by kernel_rfl) (by kernel_rfl) (by kernel_rfl) rfl rfl rfl (fun w105 => run_move rfl rfl) ?_
       refine wa_take (i := 2) (d := 64) 11 rfl (by kernel_rfl) (by kernel_rfl) (by kernel_rfl) rfl rfl rfl (fun M64 N61 w106 hle70 S120 => .inl (run_indexP (e := i) (k := 1) rfl rfl rfl Try.underlying74 sz3 (by first | rfl | omega) (by first | omega | (simp only [lens]; omega)))) ?_
       refine wa_take (i := 3) (d := 65) 10 rfl (by kernel_rfl) (by kernel_rfl) (by kernel_rfl) rfl rfl rfl (fun M65 N62 w107 hle71 S121 => .inl (run_load1 rfl rfl Try.underlying3 rfl (S121.suf.boxc (i := 1) rfl (nth_v2 (by omega))))) ?_
       refine wa_takeP (i := 4) (d := 66) 9 rfl (by kernel_rfl) (by kernel_rfl) (by kernel_rfl) rfl rfl rfl (fun w108 => run_move rfl rfl) ?_
       refine wa_takeP (i := 5) (d := 67) 8 rfl (by kernel_rfl) (by kernel_rfl) (by kernel_rfl) rfl rfl rfl (fun w109 => run_move rfl rfl) ?_
       refine wa_take (i := 6) (d := 68) 7 rfl (by kernel_rfl) (by kernel_rfl) (by kernel_rfl) rfl rfl rfl (fun M68 N65 w110 hle74 S124 => .inl (run_indexP (e := i) (k := 1) rfl rfl rfl Try.underlying74 sz3 (by first | rfl | omega) (by first | omega | (simp only [lens]; omega)))) ?_
       refine wa_take (i := 7) (d := 69) 6 rfl (by kernel_rfl) (by kernel_rfl) (by kernel_rfl) rfl rfl rfl (fun M69 N66 w111 hle75 S125 => .inl (run_load1 rfl rfl Try.underlying3 rfl (S125.suf.boxc (i := 0) rfl (nth_v2 (by first | omega | (simp only [lens]; omega)))))) ?_
       refine wa_take (i := 8) (d := 70) 5 rfl (by kernel_rfl) (by kernel_rfl) (by kernel_rfl) rfl rfl rfl (fun M70 N67 w112 hle76 S126 => .inl (run_build (l := [_, _]) rfl rfl st65 rfl rfl)) ?_
       refine wa_take (i := 9) (d := 71) 4 rfl (by kernel_rfl) (by kernel_rfl) (by kernel_rfl) rfl rfl rfl (fun M71 N68 w113 hle77 S127 => .inl (run_build (l := [_, _, _, _]) rfl rfl st67 rfl rfl)) ?_
       refine wa_takeP (i := 10) (d := 72) 3 rfl (by kernel_rfl) (by kernel_rfl) (by kernel_rfl) rfl rfl rfl (fun w114 => run_nilCheck rfl rfl) ?_
       refine wa_takeP (i := 11) (d := 73) 2 rfl (by kernel_rfl) (by kernel_rfl) (by kernel_rfl) rfl rfl rfl (fun w115 => run_fieldAddr rfl rfl Try.underlying72 rfl (ce68) (nf68)) ?_
       refine wa_take (i := 12) (d := 74) 1 rfl (by kernel_rfl) (by kernel_rfl) (by kernel_rfl) rfl rfl rfl (fun M74 N71 w116 hle80 S130 => .inl (run_indexP (e := (ga ([2, 3] : List Int) i).toNat) (k := 4) rfl rfl rfl Try.underlying68 sz67 (by (obtain rfl | rfl : i = 0 ∨ i = 1 := by omega) <;> decide) (by (obtain rfl | rfl : i = 0 ∨ i = 1 := by omega) <;> decide))) ?_
       refine wa_only (i := 13) 0 rfl (by kernel_rfl) rfl rfl (fun w118 S132 => ?_)
       refine (wo_storeB (i := 2) (us := [_, _, _, _]) (l' := [.bool ((upd (enN bl (q.pl.length : Int) (twG2 bl ab q).E i) ((ga ([2, 3] : List Int) i).toNat) (⟨true, (q.pl.length : Int), ga ([2, 3] : List Int) i, 0⟩ : En) 0).ic), .int .i64 ((upd (enN bl (q.pl.length : Int) (twG2 bl ab q).E i) ((ga ([2, 3] : List Int) i).toNat) (⟨true, (q.pl.length : Int), ga ([2, 3] : List Int) i, 0⟩ : En) 0).c), .int .i64 ((upd (enN bl (q.pl.length : Int) (twG2 bl ab q).E i) ((ga ([2, 3] : List Int) i).toNat) (⟨true, (q.pl.length : Int), ga ([2, 3] : List Int) i, 0⟩ : En) 0).a), .int .i64 ((upd (enN bl (q.pl.length : Int) (twG2 bl ab q).E i) ((ga ([2, 3] : List Int) i).toNat) (⟨true, (q.pl.length : Int), ga ([2, 3] : List Int) i, 0⟩ : En) 0).o), .bool ((upd (enN bl (q.pl.length : Int) (twG2 bl ab q).E i) ((ga ([2, 3] : List Int) i).toNat) (⟨true, (q.pl.length : Int), ga ([2, 3] : List Int) i, 0⟩ : En) 1).ic), .int .i64 ((upd (enN bl (q.pl.length : Int) (twG2 bl ab q).E i) ((ga ([2, 3] : List Int) i).toNat) (⟨true, (q.pl.length : Int), ga ([2, 3] : List Int) i, 0⟩ : En) 1).c), .int .i64 ((upd (enN bl (q.pl.length : Int) (twG2 bl ab q).E i) ((ga ([2, 3] : List Int) i).toNat) (⟨true, (q.pl.length : Int), ga ([2, 3] : List Int) i, 0⟩ : En) 1).a), .int .i64 ((upd (enN bl (q.pl.length : Int) (twG2 bl ab q).E i) ((ga ([2, 3] : List Int) i).toNat) (⟨true, (q.pl.length : Int), ga ([2, 3] : List Int) i, 0⟩ : En) 1).o), .bool ((upd (enN bl (q.pl.length : Int) (twG2 bl ab q).E i) ((ga ([2, 3] : List Int) i).toNat) (⟨true, (q.pl.length : Int), ga ([2, 3] : List Int) i, 0⟩ : En) 2).ic), .int .i64 ((upd (enN bl (q.pl.length : Int) (twG2 bl ab q).E i) ((ga ([2, 3] : List Int) i).toNat) (⟨true, (q.pl.length : Int), ga ([2, 3] : List Int) i, 0⟩ : En) 2).c), .int .i64 ((upd (enN bl (q.pl.length : Int) (twG2 bl ab q).E i) ((ga ([2, 3] : List Int) i).toNat) (⟨true, (q.pl.length : Int), ga ([2, 3] : List Int) i, 0⟩ : En) 2).a), .int .i64 ((upd (enN bl (q.pl.length : Int) (twG2 bl ab q).E i) ((ga ([2, 3] : List Int) i).toNat) (⟨true, (q.pl.length : Int), ga ([2, 3] : List Int) i, 0⟩ : En) 2).o), .bool ((upd (enN bl (q.pl.length : Int) (twG2 bl ab q).E i) ((ga ([2, 3] : List Int) i).toNat) (⟨true, (q.pl.length : Int), ga ([2, 3] : List Int) i, 0⟩ : En) 3).ic), .int .i64 ((upd (enN bl (q.pl.length : Int) (twG2 bl ab q).E i) ((ga ([2, 3] : List Int) i).toNat) (⟨true, (q.pl.length : Int), ga ([2, 3] : List Int) i, 0⟩ : En) 3).c), .int .i64 ((upd (enN bl (q.pl.length : Int) (twG2 bl ab q).E i) ((ga ([2, 3] : List Int) i).toNat) (⟨true, (q.pl.length : Int), ga ([2, 3] : List Int) i, 0⟩ : En) 3).a), .int .i64 ((upd (enN bl (q.pl.length : Int) (twG2 bl ab q).E i) ((ga ([2, 3] : List Int) i).toNat) (⟨true, (q.pl.length : Int), ga ([2, 3] : List Int) i, 0⟩ : En) 3).o), vply, .map (some gti), .int .i64 ((twG2 bl ab q).loops)]) (H' := [_, _, _, _, _]) rfl rfl S132 rfl rfl rfl rfl sz67 (ble_en (by (obtain rfl | rfl : i = 0 ∨ i = 1 := by omega) <;> decide)) rfl (spl_en (enN bl (q.pl.length : Int) (twG2 bl ab q).E i) (⟨true, (q.pl.length : Int), ga ([2, 3] : List Int) i, 0⟩ : En) ((ga ([2, 3] : List Int) i).toNat) (by (obtain rfl | rfl : i = 0 ∨ i = 1 := by omega) <;> decide)) rfl ?_)
       intro w119 S133; clear S132
       refine LeftW.turn (by kernel_rfl) S133 ?_; clear S133
       change WA _ _ _ _ _ _ _ _ _ _ _ _ [_, _, _, _, _]
       refine wa_end (by kernel_rfl) (fun w120 S134 => ?_)
       refine nm_blk ?_
       refine nm_sub [(0, _), (6, _), (7, _), (9, _), (59, _)] ⟨rfl, rfl, rfl, rfl, rfl, trivial⟩ ?_
       refine nm_thn ?_
       refine ws_region rfl ?_
       refine wlo 0 1 rfl rfl rfl (wo_run rfl rfl (run_add rfl rfl rfl (by first | omega | (simp only [lens]; omega))) ?_)
       refine wlm 1 2 rfl rfl rfl rfl rfl rfl rfl ?_
       refine wl_end rfl ?_
       refine nm_lp ?_
       have eE3 : upd (enN bl (q.pl.length : Int) (twG2 bl ab q).E i) ((ga ([2, 3] : List Int) i).toNat) (⟨true, (q.pl.length : Int), ga ([2, 3] : List Int) i, 0⟩ : En) = enN bl (q.pl.length : Int) (twG2 bl ab q).E (i + 1) := by (obtain rfl | rfl : i = 0 ∨ i = 1 := by omega) <;> (rw [hb41]; rfl)
       rw [eE3] at S134; clear eE3
       intro ax_ hax_
       refine ⟨_, ?hq12m, ⟨i + 1, _, rfl, hax_.sub ⟨rfl, rfl, rfl, rfl, rfl, trivial⟩, S134.pick [0, 1, 2, 3, 4] [_, _, _, _, _] (by decide) ⟨rfl, rfl, rfl, rfl, rfl, trivial⟩, ?hq12f0⟩⟩
       case hq12f0 => first | assumption | omega
       case hq12m => omega
      ·replace hb60 := of_decide_eq_false hb60
       refine ws_exit rfl rfl ?_
       refine nm_end hC [] rfl trivial ?_
       refine ⟨_, rfl, _, _, Hp.le_refl _, (S117.pick [2, 3, 4] [_, _, _] (by decide) ⟨rfl, rfl, rfl, trivial⟩).bun, ?_⟩
       have e3 : twG bl ab q = ⟨(enN bl (q.pl.length : Int) (twG2 bl ab q).E i), (twG2 bl ab q).pl, (twG2 bl ab q).ties, (twG2 bl ab q).loops⟩ := by (obtain rfl : i = 2 := (by omega)); rfl
       rw [e3]
       exact ⟨rfl, rfl, _, rfl⟩
  ·refine ws_skip rfl ?_
   refine nm_sub [(0, _), (6, _), (7, _), (8, _), (9, _)] ⟨rfl, rfl, rfl, rfl, rfl, trivial⟩ ?_
   refine nm_thn ?_
   refine ws_seqN Twist_n17 Twist_n18 rfl rfl rfl ?_
   refine ws_seqN Twist_n19 Twist_n20 rfl rfl rfl ?_
   refine ws_region rfl ?_
   refine wlm 0 1 rfl rfl rfl rfl rfl rfl rfl ?_
   refine wl_end rfl ?_
   refine nm_thn ?_
   refine ws_blockN Twist_n21 0 rfl rfl rfl ?_
   refine ws_loopE (fun mx_ ax_ wx_ => ∃ (i : Nat) (vplx : Value), mx_ = 2 - 1 * i ∧ Env 76 [(0, .pointer (some ⟨gt, 0, none⟩)), (6, .int .i64 (q.pl.length : Int)), (7, .pointer (some ⟨gb6, 0, none⟩)), (8, .pointer (some ⟨gb7, 0, none⟩)), (9, .pointer (some ⟨gb8, 0, none⟩)), (45, .int .i64 (i : Int))] ax_ ∧ SH wx_ M X [Rs.box gb8 74 [.int .i64 1, .int .i64 3], Rs.box gb7 74 [.int .i64 0, .int .i64 2], Rs.box gb6 74 [.int .i64 1, .int .i64 3], Rs.box gt 72 [.bool (((glN bl ab q i).E 0).ic), .int .i64 (((glN bl ab q i).E 0).c), .int .i64 (((glN bl ab q i).E 0).a), .int .i64 (((glN bl ab q i).E 0).o), .bool (((glN bl ab q i).E 1).ic), .int .i64 (((glN bl ab q i).E 1).c), .int .i64 (((glN bl ab q i).E 1).a), .int .i64 (((glN bl ab q i).E 1).o), .bool (((glN bl ab q i).E 2).ic), .int .i64 (((glN bl ab q i).E 2).c), .int .i64 (((glN bl ab q i).E 2).a), .int .i64 (((glN bl ab q i).E 2).o), .bool (((glN bl ab q i).E 3).ic), .int .i64 (((glN bl ab q i).E 3).c), .int .i64 (((glN bl ab q i).E 3).a), .int .i64 (((glN bl ab q i).E 3).o), vplx, .map (some gti), .int .i64 ((glN bl ab q i).loops)], Rs.row cdA4 vplx ((glN bl ab q i).pl), Rs.mp (fun x => Value.agg (cdCo.f x).toArray) (fun x => Value.agg (cdCo.f x).toArray) gti ((glN bl ab q i).ties)] ∧ i ≤ 2) rfl ?_ ?_
   ·intro ax_ hax_
    refine ⟨_, ⟨0, _, rfl, hax_.sub ⟨rfl, rfl, rfl, rfl, rfl, rfl, trivial⟩, S95.pick [0, 1, 2, 3, 4, 5] [_, _, _, _, _, _] (by decide) ⟨rfl, rfl, rfl, rfl, rfl, rfl, trivial⟩, ?hq13f0⟩⟩
    case hq13f0 => first | assumption | omega
   ·rintro m7 a7 w121 ⟨i, vplx, rfl, he7, S135, hi⟩
    clear S95
    refine ws_in he7 (c := Twist_n22) rfl ?_
    clear he7 a7
    have hEi := hE.glN bl ab i
    have hpli : (q.pl ++ [pla ab]).length = q.pl.length + 1 := by simp
    refine ws_seqN Twist_n23 Twist_n24 rfl rfl rfl ?_
    refine ws_region rfl ?_
    refine wlo 0 1 rfl rfl rfl (wo_run rfl rfl (run_lss rfl rfl rfl) ?_)
    refine wl_end rfl ?_
    refine nm_thn ?_
    refine ws_seqN Twist_n25 Twist_n26 rfl rfl rfl ?_
    refine ws_condN Twist_n27 Twist_n28 rfl rfl rfl rfl (fun hb46 => ?_) (fun hb46 => ?_)
    ·replace hb46 := of_decide_eq_true hb46
     refine ws_skip rfl ?_
     refine nm_sub [(0, _), (6, _), (7, _), (8, _), (9, _), (45, _)] ⟨rfl, rfl, rfl, rfl, rfl, rfl, trivial⟩ ?_
     refine nm_thn ?_
     refine ws_seqN Twist_n29 Twist_n30 rfl rfl rfl ?_
     refine ws_blockN Twist_n31 1 rfl rfl rfl ?_
     refine ws_seqN Twist_n32 Twist_n33 rfl rfl rfl ?_
     refine ws_region rfl ?_
     refine wlm 0 1 rfl rfl rfl rfl rfl rfl rfl ?_
     refine wla 1 2 rfl rfl rfl rfl rfl rfl rfl ?_
     refine wl_end rfl ?_
     refine nm_sub [(0, _), (6, _), (7, _), (8, _), (9, _), (45, _), (10, _)] ⟨rfl, rfl, rfl, rfl, rfl, rfl, rfl, trivial⟩ ?_
     refine nm_thn ?_
     refine ws_draw rfl (by kernel_rfl) S135 10 rfl ?_
     clear S135
     refine wa_takeP (i := 0) (d := 48) 9 rfl (by kernel_rfl) (by kernel_rfl) (by kernel_rfl) rfl rfl rfl (fun w122 => run_move rfl rfl) ?_
     refine wa_takeP (i := 1) (d := 49) 8 rfl (by kernel_rfl) (by kernel_rfl) (by kernel_rfl) rfl rfl rfl (fun w123 => run_move rfl rfl) ?_
     refine wa_take (i := 2) (d := 50) 7 rfl (by kernel_rfl) (by kernel_rfl) (by kernel_rfl) rfl rfl rfl (fun M78 N75 w124 hle85 S138 => .inl (run_indexP (e := i) (k := 1) rfl rfl rfl Try.underlying74 sz3 (by first | rfl | omega) (by first | omega | (simp only [lens]; omega)))) ?_
     refine wa_take (i := 3) (d := 51) 6 rfl (by kernel_rfl) (by kernel_rfl) (by kernel_rfl) rfl rfl rfl (fun M79 N76 w125 hle86 S139 => .inl (run_load1 rfl rfl Try.underlying3 rfl (S139.suf.boxc (i := 2) rfl (nth_v2 (by first | omega | (simp only [lens]; omega)))))) ?_
     refine wa_takeP (i := 4) (d := 52) 5 rfl (by kernel_rfl) (by kernel_rfl) (by kernel_rfl) rfl rfl rfl (fun w126 => run_move rfl rfl) ?_
     refine wa_takeP (i := 5) (d := 53) 4 rfl (by kernel_rfl) (by kernel_rfl) (by kernel_rfl) rfl rfl rfl (fun w127 => run_move rfl rfl) ?_
     refine wa_take (i := 6) (d := 54) 3 rfl (by kernel_rfl) (by kernel_rfl) (by kernel_rfl) rfl rfl rfl (fun M82 N79 w128 hle89 S142 => .inl (run_indexP (e := i) (k := 1) rfl rfl rfl Try.underlying74 sz3 (by first | rfl | omega) (by first | omega | (simp only [lens]; omega)))) ?_
     refine wa_take (i := 7) (d := 55) 2 rfl (by kernel_rfl) (by kernel_rfl) (by kernel_rfl) rfl rfl rfl (fun M83 N80 w129 hle90 S143 => .inl (run_load1 rfl rfl Try.underlying3 rfl (S143.suf.boxc (i := 1) rfl (nth_v2 (by first | omega | (simp only [lens]; omega)))))) ?_
     refine wa_take (i := 8) (d := 56) 1 rfl (by kernel_rfl) (by kernel_rfl) (by kernel_rfl) rfl rfl rfl (fun M84 N81 w130 hle91 S144 => .inl (run_build (l := [_, _]) rfl rfl st65 rfl rfl)) ?_
     refine wa_only (i := 9) 0 rfl (by kernel_rfl) rfl rfl (fun w132 S146 => ?_)
     have S147 := S146.pick [3, 4, 5, 0, 1, 2] [_, _, _, _, _, _] (by decide) ⟨rfl, rfl, rfl, rfl, rfl, rfl, trivial⟩; clear S146
     have S148 : SH _ _ _ (Rs.bun [_, _, _] :: [_, _, _]) := SH.bunC (A := [_, _, _]) (B := [_, _, _]) S147; clear S147
     have S149 : SH _ _ _ [_, _, _, _] := S148.less (i := 0) rfl
     have hcall4 := Glue_b (q := (glN bl ab q i)) ((ga ([1, 3] : List Int) i).toNat) ⟨(q.pl.length : Int), ga ([0, 2] : List Int) i⟩ (by exact hEi) (by (obtain rfl | rfl : i = 0 ∨ i = 1 := by omega) <;> decide) (S148.lend1 (i := 0) rfl); clear S149
     rw [show (((ga ([1, 3] : List Int) i).toNat : Nat) : Int) = ga ([1, 3] : List Int) i from (by (obtain rfl | rfl : i = 0 ∨ i = 1 := by omega) <;> decide)] at hcall4
     refine (wo_c1 (i := 0) rfl rfl rfl rfl rfl rfl rfl cf33 S148 rfl hcall4 ?_)
     intro vw133 w133 M86 rw133 hle93 S150 hR7; clear S148
     obtain ⟨huhMX4, hMX4, hR8⟩ := hR7
     rw [hMX4] at S150
     clear hMX4
     subst huhMX4
     subst hR8
     replace S150 : SH _ _ _ (Rs.bun [_, _, _] :: [_, _, _]) := S150
     have S151 : SH _ _ _ [_, _, _, _, _, _] := SH.unbunC (A := [_, _, _]) (B := [_, _, _]) S150; clear S150
     have eT7 : glueG (glN bl ab q i) ((ga ([1, 3] : List Int) i).toNat) ⟨(q.pl.length : Int), ga ([0, 2] : List Int) i⟩ = (glN bl ab q (i + 1)) := by (obtain rfl | rfl : i = 0 ∨ i = 1 := by omega) <;> (rw [hb41]; rfl)
     rw [eT7] at S151; clear eT7
     refine LeftW.turn (by kernel_rfl) S151 ?_; clear S151
     change WA _ _ _ _ _ _ _ _ _ _ _ _ [_, _, _, _, _, _]
     refine wa_end (by kernel_rfl) (fun w134 S152 => ?_)
     refine nm_blk ?_
     refine nm_sub [(0, _), (6, _), (7, _), (8, _), (9, _), (45, _)] ⟨rfl, rfl, rfl, rfl, rfl, rfl, trivial⟩ ?_
     refine nm_thn ?_
     refine ws_region rfl ?_
     refine wlo 0 1 rfl rfl rfl (wo_run rfl rfl (run_add rfl rfl rfl (by first | omega | (simp only [lens]; omega))) ?_)
     refine wlm 1 2 rfl rfl rfl rfl rfl rfl rfl ?_
     refine wl_end rfl ?_
     refine nm_lp ?_
     intro ax_ hax_
     refine ⟨_, ?hq14m, ⟨i + 1, _, rfl, hax_.sub ⟨rfl, rfl, rfl, rfl, rfl, rfl, trivial⟩, S152.pick [3, 4, 5, 0, 1, 2] [_, _, _, _, _, _] (by decide) ⟨rfl, rfl, rfl, rfl, rfl, rfl, trivial⟩, ?hq14f0⟩⟩
     case hq14f0 => first | assumption | omega
     case hq14m => omega
    ·replace hb46 := of_decide_eq_false hb46
     have eT8 : (glN bl ab q i) = twG2 bl ab q := by (obtain rfl : i = 2 := (by omega)); rfl
     rw [eT8] at S135; clear eT8
     clear hi
     refine ws_exit rfl rfl ?_
     refine nm_sub [(0, _), (6, _), (7, _), (9, _)] ⟨rfl, rfl, rfl, rfl, trivial⟩ ?_
     refine nm_thn ?_
     refine ws_seqN Twist_n34 Twist_n35 rfl rfl rfl ?_
     refine ws_region rfl ?_
     refine wlm 0 1 rfl rfl rfl rfl rfl rfl rfl ?_
     refine wl_end rfl ?_
     refine nm_thn ?_
     refine ws_blockN Twist_n36 2 rfl rfl rfl ?_
     refine ws_loopE (fun mx_ ax_ wx_ => ∃ (i : Nat) (vply : Value), mx_ = 2 - 1 * i ∧ Env 76 [(0, .pointer (some ⟨gt, 0, none⟩)), (6, .int .i64 (q.pl.length : Int)), (7, .pointer (some ⟨gb6, 0, none⟩)), (9, .pointer (some ⟨gb8, 0, none⟩)), (59, .int .i64 (i : Int))] ax_ ∧ SH wx_ M X [Rs.box gb8 74 [.int .i64 1, .int .i64 3], Rs.box gb6 74 [.int .i64 1, .int .i64 3], Rs.box gt 72 [.bool (((enN bl (q.pl.length : Int) (twG2 bl ab q).E i) 0).ic), .int .i64 (((enN bl (q.pl.length : Int) (twG2 bl ab q).E i) 0).c), .int .i64 (((enN bl (q.pl.length : Int) (twG2 bl ab q).E i) 0).a), .int .i64 (((enN bl (q.pl.length : Int) (twG2 bl ab q).E i) 0).o), .bool (((enN bl (q.pl.length : Int) (twG2 bl ab q).E i) 1).ic), .int .i64 (((enN bl (q.pl.length : Int) (twG2 bl ab q).E i) 1).c), .int .i64 (((enN bl (q.pl.length : Int) (twG2 bl ab q).E i) 1).a), .int .i64 (((enN bl (q.pl.length : Int) (twG2 bl ab q).E i) 1).o), .bool (((enN bl (q.pl.length : Int) (twG2 bl ab q).E i) 2).ic), .int .i64 (((enN bl (q.pl.length : Int) (twG2 bl ab q).E i) 2).c), .int .i64 (((enN bl (q.pl.length : Int) (twG2 bl ab q).E i) 2).a), .int .i64 (((enN bl (q.pl.length : Int) (twG2 bl ab q).E i) 2).o), .bool (((enN bl (q.pl.length : Int) (twG2 bl ab q).E i) 3).ic), .int .i64 (((enN bl (q.pl.length : Int) (twG2 bl ab q).E i) 3).c), .int .i64 (((enN bl (q.pl.length : Int) (twG2 bl ab q).E i) 3).a), .int .i64 (((enN bl (q.pl.length : Int) (twG2 bl ab q).E i) 3).o), vply, .map (some gti), .int .i64 ((twG2 bl ab q).loops)], Rs.row cdA4 vply ((twG2 bl ab q).pl), Rs.mp (fun x => Value.agg (cdCo.f x).toArray) (fun x => Value.agg (cdCo.f x).toArray) gti ((twG2 bl ab q).ties)] ∧ i ≤ 2) rfl ?_ ?_
     ·intro ax_ hax_
      refine ⟨_, ⟨0, _, rfl, hax_.sub ⟨rfl, rfl, rfl, rfl, rfl, trivial⟩, S135.pick [0, 2, 3, 4, 5] [_, _, _, _, _] (by decide) ⟨rfl, rfl, rfl, rfl, rfl, trivial⟩, ?hq15f0⟩⟩
      case hq15f0 => first | assumption | omega
     ·rintro m8 a8 w135 ⟨i, vply, rfl, he8, S153, hi⟩
      clear S135
      refine ws_in he8 (c := Twist_n37) rfl ?_
      clear he8 a8
      refine ws_seqN Twist_n38 Twist_n39 rfl rfl rfl ?_
      refine ws_region rfl ?_
      refine wlo 0 1 rfl rfl rfl (wo_run rfl rfl (run_lss rfl rfl rfl) ?_)
      refine wl_end rfl ?_
      refine nm_thn ?_
      refine ws_seqN Twist_n40 Twist_n41 rfl rfl rfl ?_
      refine ws_condN Twist_n42 Twist_n43 rfl rfl rfl rfl (fun hb60 => ?_) (fun hb60 => ?_)
      ·replace hb60 := of_decide_eq_true hb60
       refine ws_skip rfl ?_
       refine nm_sub [(0, _), (6, _), (7, _), (9, _), (59, _)] ⟨rfl, rfl, rfl, rfl, rfl, trivial⟩ ?_
       refine nm_thn ?_
       refine ws_seqN Twist_n44 Twist_n45 rfl rfl rfl ?_
       refine ws_blockN Twist_n46 3 rfl rfl rfl ?_
       refine ws_seqN Twist_n47 Twist_n48 rfl rfl rfl ?_
       refine ws_region rfl ?_
       refine wlm 0 1 rfl rfl rfl rfl rfl rfl rfl ?_
       refine wla 1 2 rfl rfl rfl rfl rfl rfl rfl ?_
       refine wl_end rfl ?_
       refine nm_sub [(0, _), (6, _), (7, _), (9, _), (59, _), (11, _)] ⟨rfl, rfl, rfl, rfl, rfl, rfl, trivial⟩ ?_
       refine nm_thn ?_
       refine ws_draw rfl (by kernel_rfl) S153 14 rfl ?_
       clear S153
       refine wa_takeP (i := 0) (d := 62) 13 rfl (by kernel_rfl) (by kernel_rfl) (by kernel_rfl) rfl rfl rfl (fun w136 => run_move rfl rfl) ?_
       refine wa_takeP (i := 1) (d := 63) 12 rfl (by kernel_rfl) (by kernel_rfl) (by kernel_rfl) rfl rfl rfl (fun w137 => run_move rfl rfl) ?_
       refine wa_take (i := 2) (d := 64) 11 rfl (by kernel_rfl) (by kernel_rfl) (by kernel_rfl) rfl rfl rfl (fun M89 N85 w138 hle97 S156 => .inl (run_indexP (e := i) (k := 1) rfl rfl rfl Try.underlying74 sz3 (by first | rfl | omega) (by first | omega | (simp only [lens]; omega)))) ?_
       refine wa_take (i := 3) (d := 65) 10 rfl (by kernel_rfl) (by kernel_rfl) (by kernel_rfl) rfl rfl rfl (fun M90 N86 w139 hle98 S157 => .inl (run_load1 rfl rfl Try.underlying3 rfl (S157.suf.boxc (i := 1) rfl (nth_v2 (by omega))))) ?_
       refine wa_takeP (i := 4) (d := 66) 9 rfl (by kernel_rfl) (by kernel_rfl) (by kernel_rfl) rfl rfl rfl (fun w140 => run_move rfl rfl) ?_
       refine wa_takeP (i := 5) (d := 67) 8 rfl (by kernel_rfl) (by kernel_rfl) (by kernel_rfl) rfl rfl rfl (fun w141 => run_move rfl rfl) ?_
       refine wa_take (i := 6) (d := 68) 7 rfl (by kernel_rfl) (by kernel_rfl) (by kernel_rfl) rfl rfl rfl (fun M93 N89 w142 hle101 S160 => .inl (run_indexP (e := i) (k := 1) rfl rfl rfl Try.underlying74 sz3 (by first | rfl | omega) (by first | omega | (simp only [lens]; omega)))) ?_
       refine wa_take (i := 7) (d := 69) 6 rfl (by kernel_rfl) (by kernel_rfl) (by kernel_rfl) rfl rfl rfl (fun M94 N90 w143 hle102 S161 => .inl (run_load1 rfl rfl Try.underlying3 rfl (S161.suf.boxc (i := 0) rfl (nth_v2 (by first | omega | (simp only [lens]; omega)))))) ?_
       refine wa_take (i := 8) (d := 70) 5 rfl (by kernel_rfl) (by kernel_rfl) (by kernel_rfl) rfl rfl rfl (fun M95 N91 w144 hle103 S162 => .inl (run_build (l := [_, _]) rfl rfl st65 rfl rfl)) ?_
       refine wa_take (i := 9) (d := 71) 4 rfl (by kernel_rfl) (by kernel_rfl) (by kernel_rfl) rfl rfl rfl (fun M96 N92 w145 hle104 S163 => .inl (run_build (l := [_, _, _, _]) rfl rfl st67 rfl rfl)) ?_
       refine wa_takeP (i := 10) (d := 72) 3 rfl (by kernel_rfl) (by kernel_rfl) (by kernel_rfl) rfl rfl rfl (fun w146 => run_nilCheck rfl rfl) ?_
       refine wa_takeP (i := 11) (d := 73) 2 rfl (by kernel_rfl) (by kernel_rfl) (by kernel_rfl) rfl rfl rfl (fun w147 => run_fieldAddr rfl rfl Try.underlying72 rfl (ce68) (nf68)) ?_
       refine wa_take (i := 12) (d := 74) 1 rfl (by kernel_rfl) (by kernel_rfl) (by kernel_rfl) rfl rfl rfl (fun M99 N95 w148 hle107 S166 => .inl (run_indexP (e := (ga ([1, 3] : List Int) i).toNat) (k := 4) rfl rfl rfl Try.underlying68 sz67 (by (obtain rfl | rfl : i = 0 ∨ i = 1 := by omega) <;> decide) (by (obtain rfl | rfl : i = 0 ∨ i = 1 := by omega) <;> decide))) ?_
       refine wa_only (i := 13) 0 rfl (by kernel_rfl) rfl rfl (fun w150 S168 => ?_)
       refine (wo_storeB (i := 2) (us := [_, _, _, _]) (l' := [.bool ((upd (enN bl (q.pl.length : Int) (twG2 bl ab q).E i) ((ga ([1, 3] : List Int) i).toNat) (⟨true, (q.pl.length : Int), ga ([1, 3] : List Int) i, 0⟩ : En) 0).ic), .int .i64 ((upd (enN bl (q.pl.length : Int) (twG2 bl ab q).E i) ((ga ([1, 3] : List Int) i).toNat) (⟨true, (q.pl.length : Int), ga ([1, 3] : List Int) i, 0⟩ : En) 0).c), .int .i64 ((upd (enN bl (q.pl.length : Int) (twG2 bl ab q).E i) ((ga ([1, 3] : List Int) i).toNat) (⟨true, (q.pl.length : Int), ga ([1, 3] : List Int) i, 0⟩ : En) 0).a), .int .i64 ((upd (enN bl (q.pl.length : Int) (twG2 bl ab q).E i) ((ga ([1, 3] : List Int) i).toNat) (⟨true, (q.pl.length : Int), ga ([1, 3] : List Int) i, 0⟩ : En) 0).o), .bool ((upd (enN bl (q.pl.length : Int) (twG2 bl ab q).E i) ((ga ([1, 3] : List Int) i).toNat) (⟨true, (q.pl.length : Int), ga ([1, 3] : List Int) i, 0⟩ : En) 1).ic), .int .i64 ((upd (enN bl (q.pl.length : Int) (twG2 bl ab q).E i) ((ga ([1, 3] : List Int) i).toNat) (⟨true, (q.pl.length : Int), ga ([1, 3] : List Int) i, 0⟩ : En) 1).c), .int .i64 ((upd (enN bl (q.pl.length : Int) (twG2 bl ab q).E i) ((ga ([1, 3] : List Int) i).toNat) (⟨true, (q.pl.length : Int), ga ([1, 3] : List Int) i, 0⟩ : En) 1).a), .int .i64 ((upd (enN bl (q.pl.length : Int) (twG2 bl ab q).E i) ((ga ([1, 3] : List Int) i).toNat) (⟨true, (q.pl.length : Int), ga ([1, 3] : List Int) i, 0⟩ : En) 1).o), .bool ((upd (enN bl (q.pl.length : Int) (twG2 bl ab q).E i) ((ga ([1, 3] : List Int) i).toNat) (⟨true, (q.pl.length : Int), ga ([1, 3] : List Int) i, 0⟩ : En) 2).ic), .int .i64 ((upd (enN bl (q.pl.length : Int) (twG2 bl ab q).E i) ((ga ([1, 3] : List Int) i).toNat) (⟨true, (q.pl.length : Int), ga ([1, 3] : List Int) i, 0⟩ : En) 2).c), .int .i64 ((upd (enN bl (q.pl.length : Int) (twG2 bl ab q).E i) ((ga ([1, 3] : List Int) i).toNat) (⟨true, (q.pl.length : Int), ga ([1, 3] : List Int) i, 0⟩ : En) 2).a), .int .i64 ((upd (enN bl (q.pl.length : Int) (twG2 bl ab q).E i) ((ga ([1, 3] : List Int) i).toNat) (⟨true, (q.pl.length : Int), ga ([1, 3] : List Int) i, 0⟩ : En) 2).o), .bool ((upd (enN bl (q.pl.length : Int) (twG2 bl ab q).E i) ((ga ([1, 3] : List Int) i).toNat) (⟨true, (q.pl.length : Int), ga ([1, 3] : List Int) i, 0⟩ : En) 3).ic), .int .i64 ((upd (enN bl (q.pl.length : Int) (twG2 bl ab q).E i) ((ga ([1, 3] : List Int) i).toNat) (⟨true, (q.pl.length : Int), ga ([1, 3] : List Int) i, 0⟩ : En) 3).c), .int .i64 ((upd (enN bl (q.pl.length : Int) (twG2 bl ab q).E i) ((ga ([1, 3] : List Int) i).toNat) (⟨true, (q.pl.length : Int), ga ([1, 3] : List Int) i, 0⟩ : En) 3).a), .int .i64 ((upd (enN bl (q.pl.length : Int) (twG2 bl ab q).E i) ((ga ([1, 3] : List Int) i).toNat) (⟨true, (q.pl.length : Int), ga ([1, 3] : List Int) i, 0⟩ : En) 3).o), vply, .map (some gti), .int .i64 ((twG2 bl ab q).loops)]) (H' := [_, _, _, _, _]) rfl rfl S168 rfl rfl rfl rfl sz67 (ble_en (by (obtain rfl | rfl : i = 0 ∨ i = 1 := by omega) <;> decide)) rfl (spl_en (enN bl (q.pl.length : Int) (twG2 bl ab q).E i) (⟨true, (q.pl.length : Int), ga ([1, 3] : List Int) i, 0⟩ : En) ((ga ([1, 3] : List Int) i).toNat) (by (obtain rfl | rfl : i = 0 ∨ i = 1 := by omega) <;> decide)) rfl ?_)
       intro w151 S169; clear S168
       refine LeftW.turn (by kernel_rfl) S169 ?_; clear S169
       change WA _ _ _ _ _ _ _ _ _ _ _ _ [_, _, _, _, _]
       refine wa_end (by kernel_rfl) (fun w152 S170 => ?_)
       refine nm_blk ?_
       refine nm_sub [(0, _), (6, _), (7, _), (9, _), (59, _)] ⟨rfl, rfl, rfl, rfl, rfl, trivial⟩ ?_
       refine nm_thn ?_
       refine ws_region rfl ?_
       refine wlo 0 1 rfl rfl rfl (wo_run rfl rfl (run_add rfl rfl rfl (by first | omega | (simp only [lens]; omega))) ?_)
       refine wlm 1 2 rfl rfl rfl rfl rfl rfl rfl ?_
       refine wl_end rfl ?_
       refine nm_lp ?_
       have eE4 : upd (enN bl (q.pl.length : Int) (twG2 bl ab q).E i) ((ga ([1, 3] : List Int) i).toNat) (⟨true, (q.pl.length : Int), ga ([1, 3] : List Int) i, 0⟩ : En) = enN bl (q.pl.length : Int) (twG2 bl ab q).E (i + 1) := by (obtain rfl | rfl : i = 0 ∨ i = 1 := by omega) <;> (rw [hb41]; rfl)
       rw [eE4] at S170; clear eE4
       intro ax_ hax_
       refine ⟨_, ?hq16m, ⟨i + 1, _, rfl, hax_.sub ⟨rfl, rfl, rfl, rfl, rfl, trivial⟩, S170.pick [0, 1, 2, 3, 4] [_, _, _, _, _] (by decide) ⟨rfl, rfl, rfl, rfl, rfl, trivial⟩, ?hq16f0⟩⟩
       case hq16f0 => first | assumption | omega
       case hq16m => omega
      ·replace hb60 := of_decide_eq_false hb60
       refine ws_exit rfl rfl ?_
       refine nm_end hC [] rfl trivial ?_
       refine ⟨_, rfl, _, _, Hp.le_refl _, (S153.pick [2, 3, 4] [_, _, _] (by decide) ⟨rfl, rfl, rfl, trivial⟩).bun, ?_⟩
       have e3 : twG bl ab q = ⟨(enN bl (q.pl.length : Int) (twG2 bl ab q).E i), (twG2 bl ab q).pl, (twG2 bl ab q).ties, (twG2 bl ab q).loops⟩ := by (obtain rfl : i = 2 := (by omega)); rfl
       rw [e3]
       exact ⟨rfl, rfl, _, rfl⟩
noncomputable def Join_n0 : Code := Try.f28.body.getD .skip
noncomputable def Join_n1 : Code := cL Join_n0
noncomputable def Join_n2 : Code := cR Join_n0
noncomputable def Join_n3 : Code := cL Join_n2
noncomputable def Join_n4 : Code := cL Join_n3
noncomputable def Join_n5 : Code := cR Join_n3
noncomputable def Join_n6 : Code := cL Join_n5
noncomputable def Join_n7 : Code := cR Join_n5
noncomputable def Join_n8 : Code := cL Join_n7
noncomputable def Join_n9 : Code := cR Join_n7
noncomputable def Join_n10 : Code := cL Join_n9
noncomputable def Join_n11 : Code := cR Join_n9
set_option maxRecDepth 10000 in
theorem Join_b {w : World} {M : Hp} {X : Fr} {gt gti : Nat} {vpl : Value} (q : Tg) (i : Nat) (j : Nat) (hE : EOk q) (hi : i < 4) (hj : j < 4) (hor : (q.E i).ic = true ∨ (q.E i).o = (j : Int)) (hlp : 0 ≤ q.loops ∧ q.loops ≤ 100) (S : SH w M X [Rs.bun [Rs.box gt 72 [.bool ((q.E 0).ic), .int .i64 ((q.E 0).c), .int .i64 ((q.E 0).a), .int .i64 ((q.E 0).o), .bool ((q.E 1).ic), .int .i64 ((q.E 1).c), .int .i64 ((q.E 1).a), .int .i64 ((q.E 1).o), .bool ((q.E 2).ic), .int .i64 ((q.E 2).c), .int .i64 ((q.E 2).a), .int .i64 ((q.E 2).o), .bool ((q.E 3).ic), .int .i64 ((q.E 3).c), .int .i64 ((q.E 3).a), .int .i64 ((q.E 3).o), vpl, .map (some gti), .int .i64 q.loops], Rs.row cdA4 vpl q.pl, Rs.mp (fun x => Value.agg (cdCo.f x).toArray) (fun x => Value.agg (cdCo.f x).toArray) gti q.ties]]) : C1 Try.prog 28 [.pointer (some ⟨gt, 0, none⟩), .int .i64 (i : Int), .int .i64 (j : Int)] w M X (fun u M' r' => u = tup [] ∧ M' = M ∧ r' = Rs.bun (tgB gt vpl gti (joinG q i j))) := by
 unfold C1
 replace S := S.unbun
 refine calls_in (b := Join_n0) Try.func28 rfl Try.ntmps28 rfl (fun C hC => ?_)
 refine ws_sub [(0, _), (1, _), (2, _)] ⟨rfl, rfl, rfl, trivial⟩ ?_
 refine ws_seqN Join_n1 Join_n2 rfl rfl rfl ?_
 refine ws_draw rfl (by kernel_rfl) S 16 rfl ?_
 clear S
 refine wa_takeP (i := 0) (d := 8) 15 rfl (by kernel_rfl) (by kernel_rfl) (by kernel_rfl) rfl rfl rfl (fun w1 => run_move rfl rfl) ?_
 refine wa_takeP (i := 1) (d := 9) 14 rfl (by kernel_rfl) (by kernel_rfl) (by kernel_rfl) rfl rfl rfl (fun w2 => run_move rfl rfl) ?_
 refine wa_takeP (i := 2) (d := 10) 13 rfl (by kernel_rfl) (by kernel_rfl) (by kernel_rfl) rfl rfl rfl (fun w3 => run_nilCheck rfl rfl) ?_
 refine wa_takeP (i := 3) (d := 11) 12 rfl (by kernel_rfl) (by kernel_rfl) (by kernel_rfl) rfl rfl rfl (fun w4 => run_fieldAddr rfl rfl Try.underlying72 rfl (ce68) (nf68)) ?_
 refine wa_take (i := 4) (d := 12) 11 rfl (by kernel_rfl) (by kernel_rfl) (by kernel_rfl) rfl rfl rfl (fun M5 N5 w5 hle5 S5 => .inl (run_indexP (e := i) (k := 4) rfl rfl rfl Try.underlying68 sz67 (by first | rfl | omega) (by first | omega | (simp only [lens]; omega)))) ?_
 refine wa_take (i := 5) (d := 13) 10 rfl (by kernel_rfl) (by kernel_rfl) (by kernel_rfl) rfl rfl rfl (fun M6 N6 w6 hle6 S6 => .inl (run_loadN (us := [_, _, _, _]) rfl rfl Try.underlying67 rfl sz67 (S6.suf.boxcs (i := 0) rfl (piece_en q.E i (by first | omega | (simp only [lens]; omega)))))) ?_
 refine wa_takeP (i := 6) (d := 14) 9 rfl (by kernel_rfl) (by kernel_rfl) (by kernel_rfl) rfl rfl rfl (fun w7 => run_move rfl rfl) ?_
 refine wa_takeP (i := 7) (d := 15) 8 rfl (by kernel_rfl) (by kernel_rfl) (by kernel_rfl) rfl rfl rfl (fun w8 => run_move rfl rfl) ?_
 refine wa_takeP (i := 8) (d := 16) 7 rfl (by kernel_rfl) (by kernel_rfl) (by kernel_rfl) rfl rfl rfl (fun w9 => run_nilCheck rfl rfl) ?_
 refine wa_takeP (i := 9) (d := 17) 6 rfl (by kernel_rfl) (by kernel_rfl) (by kernel_rfl) rfl rfl rfl (fun w10 => run_fieldAddr rfl rfl Try.underlying72 rfl (ce68) (nf68)) ?_
 refine wa_take (i := 10) (d := 18) 5 rfl (by kernel_rfl) (by kernel_rfl) (by kernel_rfl) rfl rfl rfl (fun M11 N11 w11 hle11 S11 => .inl (run_indexP (e := j) (k := 4) rfl rfl rfl Try.underlying68 sz67 (by first | rfl | omega) (by first | omega | (simp only [lens]; omega)))) ?_
 refine wa_take (i := 11) (d := 19) 4 rfl (by kernel_rfl) (by kernel_rfl) (by kernel_rfl) rfl rfl rfl (fun M12 N12 w12 hle12 S12 => .inl (run_loadN (us := [_, _, _, _]) rfl rfl Try.underlying67 rfl sz67 (S12.suf.boxcs (i := 0) rfl (piece_en q.E j (by first | omega | (simp only [lens]; omega)))))) ?_
 refine wa_two (i := 12) (j := 13) 3 rfl rfl (by kernel_rfl) rfl rfl rfl rfl (fun w15 S15 => ?_) (fun w15 S15 => ?_)
 ·refine (wo_alloc (l := [_, _, _, _]) rfl rfl rfl zr67 rfl S15 ?_)
  intro gb1 w16 S16; clear S15
  refine LeftW.grow [_] (Hp.le_refl _) S16 ?_; clear S16
  change WA _ _ _ _ _ _ _ _ _ _ _ _ [_, _, _, _]
  refine wa_only (i := 13) 2 rfl (by kernel_rfl) rfl rfl (fun w18 S18 => ?_)
  refine (wo_alloc (l := [_, _, _, _]) rfl rfl rfl zr67 rfl S18 ?_)
  intro gb2 w19 S19; clear S18
  refine LeftW.grow [_, _] (Hp.le_refl _) S19 ?_; clear S19
  change WA _ _ _ _ _ _ _ _ _ _ _ _ [_, _, _, _, _]
  refine wa_only (i := 14) 1 rfl (by kernel_rfl) rfl rfl (fun w21 S21 => ?_)
  refine (wo_storeB (i := 1) (us := [_, _, _, _]) (l' := [_, _, _, _]) (H' := [_, _, _, _, _]) rfl rfl S21 rfl rfl rfl rfl sz67 rfl rfl rfl rfl ?_)
  intro w22 S22; clear S21
  refine LeftW.grow [_, _] (Hp.le_refl _) S22 ?_; clear S22
  change WA _ _ _ _ _ _ _ _ _ _ _ _ [_, _, _, _, _]
  refine wa_only (i := 15) 0 rfl (by kernel_rfl) rfl rfl (fun w24 S24 => ?_)
  refine (wo_storeB (i := 0) (us := [_, _, _, _]) (l' := [_, _, _, _]) (H' := [_, _, _, _, _]) rfl rfl S24 rfl rfl rfl rfl sz67 rfl rfl rfl rfl ?_)
  intro w25 S25; clear S24
  refine LeftW.grow [_, _] (Hp.le_refl _) S25 ?_; clear S25
  change WA _ _ _ _ _ _ _ _ _ _ _ _ [_, _, _, _, _]
  refine wa_end (by kernel_rfl) (fun w26 S26 => ?_)
  refine nm_sub [(0, _), (1, _), (2, _), (6, _), (7, _)] ⟨rfl, rfl, rfl, rfl, rfl, trivial⟩ ?_
  refine nm_thn ?_
  refine ws_blockN Join_n3 0 rfl rfl rfl ?_
  refine ws_seqN Join_n4 Join_n5 rfl rfl rfl ?_
  refine ws_region rfl ?_
  refine wlo 0 1 rfl rfl rfl (wo_run rfl rfl (run_fieldAddr rfl rfl Try.underlying67 rfl (ce4) (nf4)) ?_)
  refine wlo 1 2 rfl rfl rfl (wo_run rfl rfl (run_load1 rfl rfl Try.underlying4 rfl (S26.boxc (i := 1) rfl rfl)) ?_)
  refine wla 2 3 rfl rfl rfl rfl rfl rfl rfl ?_
  refine wl_end rfl ?_
  refine nm_sub [(0, _), (1, _), (2, _), (6, _), (7, _), (38, _)] ⟨rfl, rfl, rfl, rfl, rfl, rfl, trivial⟩ ?_
  refine nm_thn ?_
  refine ws_condN Join_n6 Join_n7 rfl rfl rfl rfl (fun hb38 => ?_) (fun hb38 => ?_)
  ·refine ws_region rfl ?_
   refine wlm 0 1 rfl rfl rfl rfl rfl rfl rfl ?_
   refine wlm 1 2 rfl rfl rfl rfl rfl rfl rfl ?_
   refine wlo 2 3 rfl rfl rfl (wo_run rfl rfl (run_fieldAddr rfl rfl Try.underlying67 rfl (ce65) (nf65)) ?_)
   refine wlo 3 4 rfl rfl rfl (wo_run rfl rfl (run_loadN (us := [_, _]) rfl rfl Try.underlying65 rfl sz65 (S26.boxcs (i := 1) rfl ⟨rfl, rfl, trivial⟩)) ?_)
   have S27 := S26.pick [2, 3, 4, 0, 1] [_, _, _, _, _] (by decide) ⟨rfl, rfl, rfl, rfl, rfl, trivial⟩; clear S26
   have S28 : SH _ _ _ (Rs.bun [_, _, _] :: [_, _]) := SH.bunC (A := [_, _, _]) (B := [_, _]) S27; clear S27
   have S29 : SH _ _ _ [_, _, _] := S28.less (i := 0) rfl
   have hcall1 := Glue_b (q := q) j ⟨(q.E i).c, (q.E i).a⟩ (by assumption) (by omega) (S28.lend1 (i := 0) rfl); clear S29
   refine wlo 4 5 rfl rfl rfl (wo_c1 (i := 0) rfl rfl rfl rfl rfl rfl rfl cf33 S28 rfl hcall1 ?_)
   intro vw27 w27 M18 rw27 hle18 S30 hR1; clear S28
   obtain ⟨huhMX1, hMX1, hR2⟩ := hR1
   rw [hMX1] at S30
   clear hMX1
   subst huhMX1
   subst hR2
   replace S30 : SH _ _ _ (Rs.bun [_, _, _] :: [_, _]) := S30
   have S31 : SH _ _ _ [_, _, _, _, _] := SH.unbunC (A := [_, _, _]) (B := [_, _]) S30; clear S30
   have eT1 : glueG q j ⟨(q.E i).c, (q.E i).a⟩ = joinG q i j := by unfold joinG; rw [if_pos hb38]; rfl
   rw [eT1] at S31; clear eT1
   refine wl_end rfl ?_
   refine nm_blk ?_
   refine nm_end hC [] rfl trivial ?_
   refine ⟨_, rfl, _, _, Hp.le_refl _, (S31.pick [0, 1, 2] [_, _, _] (by decide) ⟨rfl, rfl, rfl, trivial⟩).bun, ?_⟩
   exact ⟨rfl, rfl, rfl⟩
  ·refine ws_seqN Join_n8 Join_n9 rfl rfl rfl ?_
   refine ws_region rfl ?_
   refine wlo 0 1 rfl rfl rfl (wo_run rfl rfl (run_fieldAddr rfl rfl Try.underlying67 rfl (ce3) (nf3)) ?_)
   refine wlo 1 2 rfl rfl rfl (wo_run rfl rfl (run_load1 rfl rfl Try.underlying3 rfl (S26.boxc (i := 1) rfl rfl)) ?_)
   refine wlm 2 3 rfl rfl rfl rfl rfl rfl rfl ?_
   refine wlo 3 4 rfl rfl rfl (wo_run rfl rfl (run_eql rfl rfl rfl) ?_)
   refine wla 4 5 rfl rfl rfl rfl rfl rfl rfl ?_
   refine wl_end rfl ?_
   refine nm_sub [(0, _), (1, _), (6, _), (7, _), (46, _)] ⟨rfl, rfl, rfl, rfl, rfl, trivial⟩ ?_
   refine nm_thn ?_
   refine ws_condN Join_n10 Join_n11 rfl rfl rfl rfl (fun hb46 => ?_) (fun hb46 => ?_)
   ·replace hb46 := of_decide_eq_true hb46
    refine ws_region rfl ?_
    refine wlm 0 1 rfl rfl rfl rfl rfl rfl rfl ?_
    refine wlo 1 2 rfl rfl rfl (wo_run rfl rfl (run_nilCheck rfl rfl) ?_)
    refine wlo 2 3 rfl rfl rfl (wo_run rfl rfl (run_fieldAddr rfl rfl Try.underlying72 rfl (ce3) (nf3)) ?_)
    refine wlo 3 4 rfl rfl rfl (wo_run rfl rfl (run_load1 rfl rfl Try.underlying3 rfl (S26.boxc (i := 2) rfl rfl)) ?_)
    refine wlo 4 5 rfl rfl rfl (wo_run rfl rfl (run_add rfl rfl rfl (by first | omega | (simp only [lens]; omega))) ?_)
    refine wlo 5 6 rfl rfl rfl (wo_run rfl rfl (run_nilCheck rfl rfl) ?_)
    refine wlo 6 7 rfl rfl rfl (wo_run rfl rfl (run_fieldAddr rfl rfl Try.underlying72 rfl (ce3) (nf3)) ?_)
    refine wlo 7 8 rfl rfl rfl (wo_storeB (i := 2) (us := [_]) (l' := [_, _, _, _, _, _, _, _, _, _, _, _, _, _, _, _, _, _, _]) (H' := [_, _, _, _, _]) rfl rfl S26 rfl rfl rfl rfl sz3 rfl rfl rfl rfl ?_)
    intro w28 S32; clear S26
    refine wl_end rfl ?_
    refine nm_blk ?_
    refine nm_end hC [] rfl trivial ?_
    refine ⟨_, rfl, _, _, Hp.le_refl _, (S32.pick [2, 3, 4] [_, _, _] (by decide) ⟨rfl, rfl, rfl, trivial⟩).bun, ?_⟩
    have e3 : joinG q i j = ⟨q.E, q.pl, q.ties, q.loops + 1⟩ := by unfold joinG; rw [if_neg (by rw [hb38]; decide)]
    rw [e3]
    exact ⟨rfl, rfl, rfl⟩
   ·replace hb46 := of_decide_eq_false hb46
    exfalso; exact hor.elim (fun h => by rw [h] at hb38; cases hb38) (fun h => hb46 h)
 ·refine (wo_alloc (l := [_, _, _, _]) rfl rfl rfl zr67 rfl S15 ?_)
  intro gb3 w29 S33; clear S15
  refine LeftW.grow [_] (Hp.le_refl _) S33 ?_; clear S33
  change WA _ _ _ _ _ _ _ _ _ _ _ _ [_, _, _, _]
  refine wa_only (i := 12) 2 rfl (by kernel_rfl) rfl rfl (fun w31 S35 => ?_)
  refine (wo_alloc (l := [_, _, _, _]) rfl rfl rfl zr67 rfl S35 ?_)
  intro gb4 w32 S36; clear S35
  refine LeftW.grow [_, _] (Hp.le_refl _) S36 ?_; clear S36
  change WA _ _ _ _ _ _ _ _ _ _ _ _ [_, _, _, _, _]
  refine wa_only (i := 14) 1 rfl (by kernel_rfl) rfl rfl (fun w34 S38 => ?_)
  refine (wo_storeB (i := 0) (us := [_, _, _, _]) (l' := [_, _, _, _]) (H' := [_, _, _, _, _]) rfl rfl S38 rfl rfl rfl rfl sz67 rfl rfl rfl rfl ?_)
  intro w35 S39; clear S38
  refine LeftW.grow [_, _] (Hp.le_refl _) S39 ?_; clear S39
  change WA _ _ _ _ _ _ _ _ _ _ _ _ [_, _, _, _, _]
  refine wa_only (i := 15) 0 rfl (by kernel_rfl) rfl rfl (fun w37 S41 => ?_)
  refine (wo_storeB (i := 1) (us := [_, _, _, _]) (l' := [_, _, _, _]) (H' := [_, _, _, _, _]) rfl rfl S41 rfl rfl rfl rfl sz67 rfl rfl rfl rfl ?_)
  intro w38 S42; clear S41
  refine LeftW.grow [_, _] (Hp.le_refl _) S42 ?_; clear S42
  change WA _ _ _ _ _ _ _ _ _ _ _ _ [_, _, _, _, _]
  refine wa_end (by kernel_rfl) (fun w39 S43 => ?_)
  refine nm_sub [(0, _), (1, _), (2, _), (7, _), (6, _)] ⟨rfl, rfl, rfl, rfl, rfl, trivial⟩ ?_
  refine nm_thn ?_
  refine ws_blockN Join_n3 0 rfl rfl rfl ?_
  refine ws_seqN Join_n4 Join_n5 rfl rfl rfl ?_
  refine ws_region rfl ?_
  refine wlo 0 1 rfl rfl rfl (wo_run rfl rfl (run_fieldAddr rfl rfl Try.underlying67 rfl (ce4) (nf4)) ?_)
  refine wlo 1 2 rfl rfl rfl (wo_run rfl rfl (run_load1 rfl rfl Try.underlying4 rfl (S43.boxc (i := 0) rfl rfl)) ?_)
  refine wla 2 3 rfl rfl rfl rfl rfl rfl rfl ?_
  refine wl_end rfl ?_
  refine nm_sub [(0, _), (1, _), (2, _), (7, _), (6, _), (38, _)] ⟨rfl, rfl, rfl, rfl, rfl, rfl, trivial⟩ ?_
  refine nm_thn ?_
  refine ws_condN Join_n6 Join_n7 rfl rfl rfl rfl (fun hb38 => ?_) (fun hb38 => ?_)
  ·refine ws_region rfl ?_
   refine wlm 0 1 rfl rfl rfl rfl rfl rfl rfl ?_
   refine wlm 1 2 rfl rfl rfl rfl rfl rfl rfl ?_
   refine wlo 2 3 rfl rfl rfl (wo_run rfl rfl (run_fieldAddr rfl rfl Try.underlying67 rfl (ce65) (nf65)) ?_)
   refine wlo 3 4 rfl rfl rfl (wo_run rfl rfl (run_loadN (us := [_, _]) rfl rfl Try.underlying65 rfl sz65 (S43.boxcs (i := 0) rfl ⟨rfl, rfl, trivial⟩)) ?_)
   have S44 := S43.pick [2, 3, 4, 0, 1] [_, _, _, _, _] (by decide) ⟨rfl, rfl, rfl, rfl, rfl, trivial⟩; clear S43
   have S45 : SH _ _ _ (Rs.bun [_, _, _] :: [_, _]) := SH.bunC (A := [_, _, _]) (B := [_, _]) S44; clear S44
   have S46 : SH _ _ _ [_, _, _] := S45.less (i := 0) rfl
   have hcall2 := Glue_b (q := q) j ⟨(q.E i).c, (q.E i).a⟩ (by assumption) (by omega) (S45.lend1 (i := 0) rfl); clear S46
   refine wlo 4 5 rfl rfl rfl (wo_c1 (i := 0) rfl rfl rfl rfl rfl rfl rfl cf33 S45 rfl hcall2 ?_)
   intro vw40 w40 M22 rw40 hle22 S47 hR3; clear S45
   obtain ⟨huhMX2, hMX2, hR4⟩ := hR3
   rw [hMX2] at S47
   clear hMX2
   subst huhMX2
   subst hR4
   replace S47 : SH _ _ _ (Rs.bun [_, _, _] :: [_, _]) := S47
   have S48 : SH _ _ _ [_, _, _, _, _] := SH.unbunC (A := [_, _, _]) (B := [_, _]) S47; clear S47
   have eT2 : glueG q j ⟨(q.E i).c, (q.E i).a⟩ = joinG q i j := by unfold joinG; rw [if_pos hb38]; rfl
   rw [eT2] at S48; clear eT2
   refine wl_end rfl ?_
   refine nm_blk ?_
   refine nm_end hC [] rfl trivial ?_
   refine ⟨_, rfl, _, _, Hp.le_refl _, (S48.pick [0, 1, 2] [_, _, _] (by decide) ⟨rfl, rfl, rfl, trivial⟩).bun, ?_⟩
   exact ⟨rfl, rfl, rfl⟩
  ·refine ws_seqN Join_n8 Join_n9 rfl rfl rfl ?_
   refine ws_region rfl ?_
   refine wlo 0 1 rfl rfl rfl (wo_run rfl rfl (run_fieldAddr rfl rfl Try.underlying67 rfl (ce3) (nf3)) ?_)
   refine wlo 1 2 rfl rfl rfl (wo_run rfl rfl (run_load1 rfl rfl Try.underlying3 rfl (S43.boxc (i := 0) rfl rfl)) ?_)
   refine wlm 2 3 rfl rfl rfl rfl rfl rfl rfl ?_
   refine wlo 3 4 rfl rfl rfl (wo_run rfl rfl (run_eql rfl rfl rfl) ?_)
   refine wla 4 5 rfl rfl rfl rfl rfl rfl rfl ?_
   refine wl_end rfl ?_
   refine nm_sub [(0, _), (1, _), (7, _), (6, _), (46, _)] ⟨rfl, rfl, rfl, rfl, rfl, trivial⟩ ?_
   refine nm_thn ?_
   refine ws_condN Join_n10 Join_n11 rfl rfl rfl rfl (fun hb46 => ?_) (fun hb46 => ?_)
   ·replace hb46 := of_decide_eq_true hb46
    refine ws_region rfl ?_
    refine wlm 0 1 rfl rfl rfl rfl rfl rfl rfl ?_
    refine wlo 1 2 rfl rfl rfl (wo_run rfl rfl (run_nilCheck rfl rfl) ?_)
    refine wlo 2 3 rfl rfl rfl (wo_run rfl rfl (run_fieldAddr rfl rfl Try.underlying72 rfl (ce3) (nf3)) ?_)
    refine wlo 3 4 rfl rfl rfl (wo_run rfl rfl (run_load1 rfl rfl Try.underlying3 rfl (S43.boxc (i := 2) rfl rfl)) ?_)
    refine wlo 4 5 rfl rfl rfl (wo_run rfl rfl (run_add rfl rfl rfl (by first | omega | (simp only [lens]; omega))) ?_)
    refine wlo 5 6 rfl rfl rfl (wo_run rfl rfl (run_nilCheck rfl rfl) ?_)
    refine wlo 6 7 rfl rfl rfl (wo_run rfl rfl (run_fieldAddr rfl rfl Try.underlying72 rfl (ce3) (nf3)) ?_)
    refine wlo 7 8 rfl rfl rfl (wo_storeB (i := 2) (us := [_]) (l' := [_, _, _, _, _, _, _, _, _, _, _, _, _, _, _, _, _, _, _]) (H' := [_, _, _, _, _]) rfl rfl S43 rfl rfl rfl rfl sz3 rfl rfl rfl rfl ?_)
    intro w41 S49; clear S43
    refine wl_end rfl ?_
    refine nm_blk ?_
    refine nm_end hC [] rfl trivial ?_
    refine ⟨_, rfl, _, _, Hp.le_refl _, (S49.pick [2, 3, 4] [_, _, _] (by decide) ⟨rfl, rfl, rfl, trivial⟩).bun, ?_⟩
    have e3 : joinG q i j = ⟨q.E, q.pl, q.ties, q.loops + 1⟩ := by unfold joinG; rw [if_neg (by rw [hb38]; decide)]
    rw [e3]
    exact ⟨rfl, rfl, rfl⟩
   ·replace hb46 := of_decide_eq_false hb46
    exfalso; exact hor.elim (fun h => by rw [h] at hb38; cases hb38) (fun h => hb46 h)
noncomputable def First_n0 : Code := Try.f26.body.getD .skip
noncomputable def First_n1 : Code := cL First_n0
noncomputable def First_n2 : Code := cR First_n0
noncomputable def First_n3 : Code := cL First_n2
noncomputable def First_n4 : Code := cR First_n2
set_option maxRecDepth 10000 in
theorem First_o {w : World} {M : Hp} {X : Fr}  (S : SH w M X []) : Co Try.prog 26 [] w M X (fun u N => ∃ g v m, u = .pointer (some ⟨g, 0, none⟩) ∧ N = tgB g v m tg0) := by
 unfold Co
 refine calls_in (b := First_n0) Try.func26 rfl Try.ntmps26 rfl (fun C hC => ?_)
 refine ws_sub [] trivial ?_
 refine ws_seqN First_n1 First_n2 rfl rfl rfl ?_
 refine ws_region rfl ?_
 refine wla 0 1 rfl rfl rfl rfl rfl rfl rfl ?_
 refine wl_end rfl ?_
 refine nm_sub [] trivial ?_
 refine nm_thn ?_
 refine ws_seqN First_n3 First_n4 rfl rfl rfl ?_
 refine ws_region rfl ?_
 refine wlo 0 1 rfl rfl rfl (wo_run rfl rfl (run_build (l := [_, _, _, _]) rfl rfl st67 rfl rfl) ?_)
 refine wlo 1 2 rfl rfl rfl (wo_run rfl rfl (run_build (l := [_, _, _, _]) rfl rfl st67 rfl rfl) ?_)
 refine wlo 2 3 rfl rfl rfl (wo_run rfl rfl (run_build (l := [_, _, _, _]) rfl rfl st67 rfl rfl) ?_)
 refine wlo 3 4 rfl rfl rfl (wo_run rfl rfl (run_build (l := [_, _, _, _]) rfl rfl st67 rfl rfl) ?_)
 refine wlo 4 5 rfl rfl rfl (wo_run rfl rfl (run_buildA (l := [_, _, _, _, _, _, _, _, _, _, _, _, _, _, _, _]) (pl := [(0, 4), (4, 4), (8, 4), (12, 4)]) rfl rfl Try.underlying68 zr68 sz67 rfl rfl rfl) ?_)
 refine wlo 5 6 rfl rfl rfl (wo_makeMap Sp Sp (fun x => Value.agg (cdCo.f x).toArray) (fun x => Value.agg (cdCo.f x).toArray) rfl rfl rfl S ?_)
 intro gm1 w1 S1; clear S
 refine wlo 6 7 rfl rfl rfl (wo_run rfl rfl (run_build (l := [_, _, _, _, _, _, _, _, _, _, _, _, _, _, _, _, _, _, _]) rfl rfl st72 rfl rfl) ?_)
 refine wlo 7 8 rfl rfl rfl (wo_box (l := [_, _, _, _, _, _, _, _, _, _, _, _, _, _, _, _, _, _, _]) rfl rfl rfl rfl rfl S1 ?_)
 intro gb1 w2 S2; clear S1
 refine wla 8 9 rfl rfl rfl rfl rfl rfl rfl ?_
 refine wl_end rfl ?_
 refine nm_sub [(0, _)] ⟨rfl, trivial⟩ ?_
 refine nm_thn ?_
 have S3 := S2.nilrow cdA4; clear S2
 refine ws_ret hC [_] rfl rfl ⟨rfl, trivial⟩ ?_
 exact ⟨_, rfl, _, S3.pick [1, 0, 2] [_, _, _] (by decide) ⟨rfl, rfl, rfl, trivial⟩, ⟨_, _, _, rfl, rfl⟩⟩
end Go.Proofs.Ytkgofmloleicgaa
namespace Go.Proofs.Ytkgofmloleicgaa
open Go.ChangeShapes Go.WideShapes Go.ChangeAt Go.RowKit
def toA4 (l : List Int) : A4 := ⟨ga l 0, ga l 1, ga l 2, ga l 3⟩
def toA2 (l : List Int) : A2 := ⟨ga l 0, ga l 1⟩
theorem a2g_to (l : List Int) {p : Nat} (h : p < 2) : a2g (toA2 l) p = ga l p := by
 have : p = 0 ∨ p = 1 := by omega
 rcases this with rfl | rfl <;> rfl
theorem a4s_to {l : List Int} (hl : l.length = 4) {p : Nat} (h : p < 4) (v : Int) : a4s (toA4 l) p v = toA4 (l.set p v) := by
 match l, hl with
 | [a, b, c, d], _ =>
  have : p = 0 ∨ p = 1 ∨ p = 2 ∨ p = 3 := by omega
  rcases this with rfl | rfl | rfl | rfl <;> rfl
theorem a2s_to {l : List Int} (hl : l.length = 2) {p : Nat} (h : p < 2) (v : Int) : a2s (toA2 l) p v = toA2 (l.set p v) := by
 match l, hl with
 | [a, b], _ =>
  have : p = 0 ∨ p = 1 := by omega
  rcases this with rfl | rfl <;> rfl
theorem in_get {m : List (List Int)} {n : Nat} (h : Tb m n 2) {c p : Int} (hc : 0 ≤ c ∧ c < n) (hp : 0 ≤ p ∧ p < 2) : a2g (ga (m.map toA2) c.toNat) p.toNat = at2 m c p := by
 rw [ga_map _ _ _ (by rw [h.1]; omega), a2g_to _ (by omega)]; rfl
theorem ar_set {m : List (List Int)} {n : Nat} (h : Tb m n 4) {c p : Int} (v : Int) (hc : 0 ≤ c ∧ c < n) (hp : 0 ≤ p ∧ p < 4) : (m.map toA4).set c.toNat (a4s (ga (m.map toA4) c.toNat) p.toNat v) = (set2 m c p v).map toA4 := by
 have hl : c.toNat < m.length := by rw [h.1]; omega
 rw [ga_map _ _ _ hl, a4s_to (h.2 _ (by omega)) (by omega)]
 unfold set2
 rw [List.map_set]
theorem in_set {m : List (List Int)} {n : Nat} (h : Tb m n 2) {c p : Int} (v : Int) (hc : 0 ≤ c ∧ c < n) (hp : 0 ≤ p ∧ p < 2) : (m.map toA2).set c.toNat (a2s (ga (m.map toA2) c.toNat) p.toNat v) = (set2 m c p v).map toA2 := by
 have hl : c.toNat < m.length := by rw [h.1]; omega
 rw [ga_map _ _ _ hl, a2s_to (h.2 _ (by omega)) (by omega)]
 unfold set2
 rw [List.map_set]
/-- What the ties and the places say together. -/
def Ways (n : Nat) (pl : List A4) (ti : List (Sp × Sp)) (pm : List (Sp × Int)) (pi : Sp → Sp) : Prop := pl.length = n ∧ ∀ s, Rl n s → ((mg (⟨s.c, a4g (ga pl s.c.toNat) s.a.toNat⟩ : Sp) ti).getD (default : Sp)).c = (pi s).c ∧ (mg ((mg (⟨s.c, a4g (ga pl s.c.toNat) s.a.toNat⟩ : Sp) ti).getD (default : Sp)) pm).getD 0 = (pi s).a
def wkB (g gt gm : Nat) (va vi : Value) (pm : List (Sp × Int)) (L N : List (List Int)) : List Rs := [Rs.box g 80 [.pointer (some ⟨gt, 0, none⟩), .map (some gm), va, vi], Rs.mp (fun x => Value.agg (cdCo.f x).toArray) (Value.int .i64) gm pm, Rs.row cdA4 va (L.map toA4), Rs.row cdA2 vi (N.map toA2)]
noncomputable def Walk_n0 : Code := Try.f38.body.getD .skip
noncomputable def Walk_n1 : Code := cL Walk_n0
noncomputable def Walk_n2 : Code := cR Walk_n0
noncomputable def Walk_n3 : Code := cL Walk_n2
noncomputable def Walk_n4 : Code := cR Walk_n2
noncomputable def Walk_n5 : Code := cL Walk_n3
noncomputable def Walk_n6 : Code := cL Walk_n5
noncomputable def Walk_n7 : Code := cL Walk_n6
noncomputable def Walk_n8 : Code := cR Walk_n6
noncomputable def Walk_n9 : Code := cL Walk_n7
noncomputable def Walk_n10 : Code := cR Walk_n7
noncomputable def Walk_n11 : Code := cL Walk_n10
noncomputable def Walk_n12 : Code := cR Walk_n10
noncomputable def Walk_n13 : Code := cL Walk_n8
noncomputable def Walk_n14 : Code := cL Walk_n13
noncomputable def Walk_n15 : Code := cR Walk_n13
noncomputable def Walk_n16 : Code := cL Walk_n15
noncomputable def Walk_n17 : Code := cR Walk_n15
noncomputable def Walk_n18 : Code := cL Walk_n17
noncomputable def Walk_n19 : Code := cR Walk_n17
noncomputable def Walk_n20 : Code := cL Walk_n19
noncomputable def Walk_n21 : Code := cR Walk_n19
noncomputable def Walk_n22 : Code := cL Walk_n21
noncomputable def Walk_n23 : Code := cR Walk_n21
noncomputable def Walk_n24 : Code := cL Walk_n23
noncomputable def Walk_n25 : Code := cR Walk_n23
noncomputable def Walk_n26 : Code := cL Walk_n4
noncomputable def Walk_n27 : Code := cR Walk_n4
set_option maxRecDepth 10000 in
theorem Walk_b {w : World} {M : Hp} {X : Fr} {n : Nat} (m : Int) (pi : Sp → Sp) {gt gti : Nat} {E : Nat → En} {plA : Option Addr} {plc : Nat} {pl : List A4} {ti : List (Sp × Sp)} {lp : Int} {gwb gpm : Nat} {var vinn : Value} (pm : List (Sp × Int)) (L N : List (List Int)) (c : Int) (a : Int) (hbx : BxM M gt 72 (en4 E [.slice plA pl.length plc, .map (some gti), .int .i64 lp])) (hpl : RdA cdA4 M plA plc pl) (hti : MpOk (fun x => Value.agg (cdCo.f x).toArray) (fun x => Value.agg (cdCo.f x).toArray) gti ti M) (hp : PiOk n pi) (hways : Ways n pl ti pm pi) (hL : Tb L n 4) (hN : Tb N n 2) (hs : Rl n ⟨c, a⟩) (hm : 0 ≤ m ∧ m + negs N ≤ 1000) (S : SH w M X [Rs.bun [Rs.box gwb 80 [.pointer (some ⟨gt, 0, none⟩), .map (some gpm), var, vinn], Rs.mp (fun x => Value.agg (cdCo.f x).toArray) (Value.int .i64) gpm pm, Rs.row cdA4 var (L.map toA4), Rs.row cdA2 vinn (N.map toA2)]]) : C1 Try.prog 38 [.pointer (some ⟨gwb, 0, none⟩), .int .i64 c, .int .i64 a, .int .i64 (m + 1)] w M X (fun u M' r' => u = .int .i64 ((fullW pi ⟨L, N, m, ⟨c, a⟩⟩).n + 1) ∧ M' = M ∧ r' = Rs.bun (wkB gwb gt gpm var vinn pm (fullW pi ⟨L, N, m, ⟨c, a⟩⟩).ar (fullW pi ⟨L, N, m, ⟨c, a⟩⟩).inn)) := by
 unfold C1
 replace S := S.unbun
 refine calls_in (b := Walk_n0) Try.func38 rfl Try.ntmps38 rfl (fun C hC => ?_)
 refine ws_sub [(0, _), (1, _), (2, _), (3, _)] ⟨rfl, rfl, rfl, rfl, trivial⟩ ?_
 refine ws_seqN Walk_n1 Walk_n2 rfl rfl rfl ?_
 refine ws_region rfl ?_
 refine wla 0 1 rfl rfl rfl rfl rfl rfl rfl ?_
 refine wl_end rfl ?_
 refine nm_sub [(0, _), (1, _), (2, _), (3, _)] ⟨rfl, rfl, rfl, rfl, trivial⟩ ?_
 refine nm_thn ?_
 refine ws_seqN Walk_n3 Walk_n4 rfl rfl rfl ?_
 refine ws_blockN Walk_n5 0 rfl rfl rfl ?_
 refine ws_loopE (fun mx_ ax_ wx_ => ∃ (W : Ws), mx_ = 1 * negs W.inn ∧ Env 86 [(0, .pointer (some ⟨gwb, 0, none⟩)), (1, .int .i64 W.s.c), (2, .int .i64 W.s.a), (3, .int .i64 (W.n + 1))] ax_ ∧ SH wx_ M X [Rs.box gwb 80 [.pointer (some ⟨gt, 0, none⟩), .map (some gpm), var, vinn], Rs.mp (fun x => Value.agg (cdCo.f x).toArray) (Value.int .i64) gpm pm, Rs.row cdA4 var (W.ar.map toA4), Rs.row cdA2 vinn (W.inn.map toA2)] ∧ OkW n W ∧ fullW pi W = fullW pi ⟨L, N, m, ⟨c, a⟩⟩ ∧ W.n + negs W.inn = m + negs N ∧ m ≤ W.n) rfl ?_ ?_
 ·intro ax_ hax_
  refine ⟨_, ⟨⟨L, N, m, ⟨c, a⟩⟩, rfl, hax_.sub ⟨rfl, rfl, rfl, rfl, trivial⟩, S.pick [0, 1, 2, 3] [_, _, _, _] (by decide) ⟨rfl, rfl, rfl, rfl, trivial⟩, ?hq1f0, ?hq1f1, ?hq1f2, ?hq1f3⟩⟩
  case hq1f0 => exact ⟨hL, hN, hs⟩
  case hq1f1 => exact rfl
  case hq1f2 => exact rfl
  case hq1f3 => exact Int.le_refl _
 ·rintro m1 a1 w1 ⟨W, rfl, he1, S1, hW, hfull, hsum, hmn⟩
  clear S
  refine ws_in he1 (c := Walk_n6) rfl ?_
  clear he1 a1
  have hpll := hways.1
  obtain ⟨hWc, hWc2, hWp, hWp2⟩ := hW.s
  have hla : (W.ar.map toA4).length = n := by rw [List.length_map, hW.ar.1]
  have hln : (W.inn.map toA2).length = n := by rw [List.length_map, hW.inn.1]
  have hgin := in_get hW.inn (c := W.s.c) (p := W.s.a % 2) ⟨hWc, hWc2⟩ (by omega)
  refine ws_seqN Walk_n7 Walk_n8 rfl rfl rfl ?_
  refine ws_seqN Walk_n9 Walk_n10 rfl rfl rfl ?_
  refine ws_region rfl ?_
  refine wlm 0 1 rfl rfl rfl rfl rfl rfl rfl ?_
  refine wlo 1 2 rfl rfl rfl (wo_run rfl rfl (run_nilCheck rfl rfl) ?_)
  refine wlo 2 3 rfl rfl rfl (wo_run rfl rfl (run_fieldAddr rfl rfl Try.underlying80 rfl (ce78) (nf78)) ?_)
  refine wlo 3 4 rfl rfl rfl (wo_run rfl rfl (run_load1 rfl rfl Try.underlying78 rfl (S1.boxc (i := 0) rfl rfl)) ?_)
  refine wlm 4 5 rfl rfl rfl rfl rfl rfl rfl ?_
  refine wlm 5 6 rfl rfl rfl rfl rfl rfl rfl ?_
  refine wlo 6 7 rfl rfl rfl (wo_run rfl rfl (run_rem rfl rfl rfl (by first | omega | (simp only [lens]; omega))) ?_)
  refine wlo 7 8 rfl rfl rfl (wo_run rfl rfl (run_indexR (C := cdA2) (i := 3) W.s.c.toNat rfl rfl rfl sl78 S1 rfl (by first | rfl | omega) (by first | omega | (simp only [lens]; omega))) ?_)
  refine wlo 8 9 rfl rfl rfl (wo_run rfl rfl (run_indexPX ((W.s.a % 2).toNat) 1 _ (W.s.c.toNat * cdA2.k + ((W.s.a % 2).toNat)) rfl rfl rfl Try.underlying74 sz3 (by first | rfl | omega) (by first | omega | (simp only [lens]; omega)) (by show W.s.c.toNat * cdA2.k + 0 * 1 + ((W.s.a % 2).toNat) * 1 = _; omega)) ?_)
  refine wlo 9 10 rfl rfl rfl (wo_run rfl rfl (run_load1 rfl rfl Try.underlying3 rfl (S1.rowc (i := 3) (e := W.s.c.toNat) (j := ((W.s.a % 2).toNat)) rfl (by first | omega | (simp only [lens]; omega)) (blt_a2 (by first | omega | (simp only [lens]; omega))) (nth_a2 _ (by first | omega | (simp only [lens]; omega))))) ?_)
  refine wlo 10 11 rfl rfl rfl (wo_run rfl rfl (run_lss rfl rfl rfl) ?_)
  refine wl_end rfl ?_
  refine nm_sub [(0, _), (1, _), (2, _), (3, _), (21, _)] ⟨rfl, rfl, rfl, rfl, rfl, trivial⟩ ?_
  refine nm_thn ?_
  refine ws_condN Walk_n11 Walk_n12 rfl rfl rfl rfl (fun hb21 => ?_) (fun hb21 => ?_)
  ·replace hb21 := of_decide_eq_true hb21
   refine ws_skip rfl ?_
   refine nm_sub [(0, _), (1, _), (2, _), (3, _)] ⟨rfl, rfl, rfl, rfl, trivial⟩ ?_
   refine nm_thn ?_
   refine ws_blockN Walk_n13 1 rfl rfl rfl ?_
   refine ws_seqN Walk_n14 Walk_n15 rfl rfl rfl ?_
   rw [hgin] at hb21
   have hvis : ¬ visW W := by unfold visW; omega
   have hneg := negs_step (pi := pi) hW hvis
   refine ws_region rfl ?_
   refine wlm 0 1 rfl rfl rfl rfl rfl rfl rfl ?_
   refine wlo 1 2 rfl rfl rfl (wo_run rfl rfl (run_nilCheck rfl rfl) ?_)
   refine wlo 2 3 rfl rfl rfl (wo_run rfl rfl (run_fieldAddr rfl rfl Try.underlying80 rfl (ce78) (nf78)) ?_)
   refine wlo 3 4 rfl rfl rfl (wo_run rfl rfl (run_load1 rfl rfl Try.underlying78 rfl (S1.boxc (i := 0) rfl rfl)) ?_)
   refine wlm 4 5 rfl rfl rfl rfl rfl rfl rfl ?_
   refine wlm 5 6 rfl rfl rfl rfl rfl rfl rfl ?_
   refine wlo 6 7 rfl rfl rfl (wo_run rfl rfl (run_rem rfl rfl rfl (by first | omega | (simp only [lens]; omega))) ?_)
   refine wlm 7 8 rfl rfl rfl rfl rfl rfl rfl ?_
   refine wlo 8 9 rfl rfl rfl (wo_run rfl rfl (run_indexR (C := cdA2) (i := 3) W.s.c.toNat rfl rfl rfl sl78 S1 rfl (by first | rfl | omega) (by first | omega | (simp only [lens]; omega))) ?_)
   refine wlo 9 10 rfl rfl rfl (wo_run rfl rfl (run_indexPX ((W.s.a % 2).toNat) 1 _ (W.s.c.toNat * cdA2.k + ((W.s.a % 2).toNat)) rfl rfl rfl Try.underlying74 sz3 (by first | rfl | omega) (by first | omega | (simp only [lens]; omega)) (by show W.s.c.toNat * cdA2.k + 0 * 1 + ((W.s.a % 2).toNat) * 1 = _; omega)) ?_)
   refine wlo 10 11 rfl rfl rfl (wo_storeR (C := cdA2) (i := 3) (e := W.s.c.toNat) (j := ((W.s.a % 2).toNat)) (us := [_]) (H' := [_, _, _, _]) (a2s (ga (W.inn.map toA2) W.s.c.toNat) ((W.s.a % 2).toNat) W.s.a) rfl rfl S1 rfl (by first | omega | (simp only [lens]; omega)) rfl rfl rfl sz3 (ble_a2 (by first | omega | (simp only [lens]; omega))) rfl (spl_a2 _ _ (by first | omega | (simp only [lens]; omega))) rfl ?_)
   intro w2 S2; clear S1
   refine wl_end rfl ?_
   refine nm_sub [(0, _), (1, _), (2, _), (3, _)] ⟨rfl, rfl, rfl, rfl, trivial⟩ ?_
   refine nm_thn ?_
   refine ws_seqN Walk_n16 Walk_n17 rfl rfl rfl ?_
   have hrc1 : (W.inn.map toA2).set W.s.c.toNat (a2s (ga (W.inn.map toA2) W.s.c.toNat) ((W.s.a % 2).toNat) W.s.a) = (stepW pi W).inn.map toA2 := in_set hW.inn _ ⟨hWc, hWc2⟩ (by omega)
   rw [hrc1] at S2; clear hrc1
   refine ws_region rfl ?_
   refine wlm 0 1 rfl rfl rfl rfl rfl rfl rfl ?_
   refine wlo 1 2 rfl rfl rfl (wo_run rfl rfl (run_nilCheck rfl rfl) ?_)
   refine wlo 2 3 rfl rfl rfl (wo_run rfl rfl (run_fieldAddr rfl rfl Try.underlying80 rfl (ce70) (nf70)) ?_)
   refine wlo 3 4 rfl rfl rfl (wo_run rfl rfl (run_load1 rfl rfl Try.underlying70 rfl (S2.boxc (i := 0) rfl rfl)) ?_)
   refine wlm 4 5 rfl rfl rfl rfl rfl rfl rfl ?_
   refine wlm 5 6 rfl rfl rfl rfl rfl rfl rfl ?_
   refine wlm 6 7 rfl rfl rfl rfl rfl rfl rfl ?_
   refine wlo 7 8 rfl rfl rfl (wo_run rfl rfl (run_indexR (C := cdA4) (i := 2) W.s.c.toNat rfl rfl rfl sl70 S2 rfl (by first | rfl | omega) (by first | omega | (simp only [lens]; omega))) ?_)
   refine wlo 8 9 rfl rfl rfl (wo_run rfl rfl (run_indexPX W.s.a.toNat 1 _ (W.s.c.toNat * cdA4.k + W.s.a.toNat) rfl rfl rfl Try.underlying73 sz3 (by first | rfl | omega) (by first | omega | (simp only [lens]; omega)) (by show W.s.c.toNat * cdA4.k + 0 * 1 + W.s.a.toNat * 1 = _; omega)) ?_)
   refine wlo 9 10 rfl rfl rfl (wo_storeR (C := cdA4) (i := 2) (e := W.s.c.toNat) (j := W.s.a.toNat) (us := [_]) (H' := [_, _, _, _]) (a4s (ga (W.ar.map toA4) W.s.c.toNat) W.s.a.toNat (W.n + 1)) rfl rfl S2 rfl (by first | omega | (simp only [lens]; omega)) rfl rfl rfl sz3 (ble_a4 (by first | omega | (simp only [lens]; omega))) rfl (spl_a4 _ _ (by first | omega | (simp only [lens]; omega))) rfl ?_)
   intro w3 S3; clear S2
   refine wl_end rfl ?_
   refine nm_sub [(0, _), (1, _), (2, _), (3, _)] ⟨rfl, rfl, rfl, rfl, trivial⟩ ?_
   refine nm_thn ?_
   refine ws_seqN Walk_n18 Walk_n19 rfl rfl rfl ?_
   have hrc2 : (W.ar.map toA4).set W.s.c.toNat (a4s (ga (W.ar.map toA4) W.s.c.toNat) W.s.a.toNat (W.n + 1)) = (set2 W.ar W.s.c W.s.a (W.n + 1)).map toA4 := ar_set hW.ar _ ⟨hWc, hWc2⟩ ⟨hWp, hWp2⟩
   rw [hrc2] at S3; clear hrc2
   have hla2 : ((set2 W.ar W.s.c W.s.a (W.n + 1)).map toA4).length = n := by rw [List.length_map, (hW.ar.set2 _ _ _).1]
   refine ws_region rfl ?_
   refine wlm 0 1 rfl rfl rfl rfl rfl rfl rfl ?_
   refine wlo 1 2 rfl rfl rfl (wo_run rfl rfl (run_add rfl rfl rfl (by first | omega | (simp only [lens]; omega))) ?_)
   refine wlo 2 3 rfl rfl rfl (wo_run rfl rfl (run_rem rfl rfl rfl (by first | omega | (simp only [lens]; omega))) ?_)
   refine wla 3 4 rfl rfl rfl rfl rfl rfl rfl ?_
   refine wl_end rfl ?_
   refine nm_sub [(0, _), (1, _), (3, _), (9, _)] ⟨rfl, rfl, rfl, rfl, trivial⟩ ?_
   refine nm_thn ?_
   refine ws_seqN Walk_n20 Walk_n21 rfl rfl rfl ?_
   refine ws_region rfl ?_
   refine wlm 0 1 rfl rfl rfl rfl rfl rfl rfl ?_
   refine wlo 1 2 rfl rfl rfl (wo_run rfl rfl (run_add rfl rfl rfl (by first | omega | (simp only [lens]; omega))) ?_)
   refine wla 2 3 rfl rfl rfl rfl rfl rfl rfl ?_
   refine wl_end rfl ?_
   refine nm_sub [(0, _), (1, _), (3, _), (9, _)] ⟨rfl, rfl, rfl, rfl, trivial⟩ ?_
   refine nm_thn ?_
   refine ws_seqN Walk_n22 Walk_n23 rfl rfl rfl ?_
   refine ws_region rfl ?_
   refine wlm 0 1 rfl rfl rfl rfl rfl rfl rfl ?_
   refine wlo 1 2 rfl rfl rfl (wo_run rfl rfl (run_nilCheck rfl rfl) ?_)
   refine wlo 2 3 rfl rfl rfl (wo_run rfl rfl (run_fieldAddr rfl rfl Try.underlying80 rfl (ce70) (nf70)) ?_)
   refine wlo 3 4 rfl rfl rfl (wo_run rfl rfl (run_load1 rfl rfl Try.underlying70 rfl (S3.boxc (i := 0) rfl rfl)) ?_)
   refine wlm 4 5 rfl rfl rfl rfl rfl rfl rfl ?_
   refine wlm 5 6 rfl rfl rfl rfl rfl rfl rfl ?_
   refine wlm 6 7 rfl rfl rfl rfl rfl rfl rfl ?_
   refine wlo 7 8 rfl rfl rfl (wo_run rfl rfl (run_indexR (C := cdA4) (i := 2) W.s.c.toNat rfl rfl rfl sl70 S3 rfl (by first | rfl | omega) (by first | omega | (simp only [lens]; omega))) ?_)
   refine wlo 8 9 rfl rfl rfl (wo_run rfl rfl (run_indexPX (((W.s.a + 2) % 4).toNat) 1 _ (W.s.c.toNat * cdA4.k + (((W.s.a + 2) % 4).toNat)) rfl rfl rfl Try.underlying73 sz3 (by first | rfl | omega) (by first | omega | (simp only [lens]; omega)) (by show W.s.c.toNat * cdA4.k + 0 * 1 + (((W.s.a + 2) % 4).toNat) * 1 = _; omega)) ?_)
   refine wlo 9 10 rfl rfl rfl (wo_storeR (C := cdA4) (i := 2) (e := W.s.c.toNat) (j := (((W.s.a + 2) % 4).toNat)) (us := [_]) (H' := [_, _, _, _]) (a4s (ga ((set2 W.ar W.s.c W.s.a (W.n + 1)).map toA4) W.s.c.toNat) (((W.s.a + 2) % 4).toNat) ((W.n + 1) + 1)) rfl rfl S3 rfl (by first | omega | (simp only [lens]; omega)) rfl rfl rfl sz3 (ble_a4 (by first | omega | (simp only [lens]; omega))) rfl (spl_a4 _ _ (by first | omega | (simp only [lens]; omega))) rfl ?_)
   intro w4 S4; clear S3
   refine wl_end rfl ?_
   refine nm_sub [(0, _), (1, _), (3, _), (9, _)] ⟨rfl, rfl, rfl, rfl, trivial⟩ ?_
   refine nm_thn ?_
   refine ws_seqN Walk_n24 Walk_n25 rfl rfl rfl ?_
   have hrc3 : ((set2 W.ar W.s.c W.s.a (W.n + 1)).map toA4).set W.s.c.toNat (a4s (ga ((set2 W.ar W.s.c W.s.a (W.n + 1)).map toA4) W.s.c.toNat) (((W.s.a + 2) % 4).toNat) ((W.n + 1) + 1)) = (stepW pi W).ar.map toA4 := (by rw [ar_set (hW.ar.set2 _ _ _) _ ⟨hWc, hWc2⟩ (by omega)]; show _ = (set2 _ _ _ (W.n + 2)).map toA4; rw [show W.n + 1 + 1 = W.n + 2 by omega])
   rw [hrc3] at S4; clear hrc3
   obtain ⟨hw1, hw2⟩ := hways.2 (opp W.s) (opp_rl hW.s)
   change ((mg (⟨W.s.c, a4g (ga pl W.s.c.toNat) ((W.s.a + 2) % 4).toNat⟩ : Sp) ti).getD (default : Sp)).c = _ at hw1
   change (mg ((mg (⟨W.s.c, a4g (ga pl W.s.c.toNat) ((W.s.a + 2) % 4).toNat⟩ : Sp) ti).getD (default : Sp)) pm).getD 0 = _ at hw2
   refine ws_draw rfl (by kernel_rfl) S4 24 rfl ?_
   clear S4
   refine wa_takeP (i := 0) (d := 55) 23 rfl (by kernel_rfl) (by kernel_rfl) (by kernel_rfl) rfl rfl rfl (fun w5 => run_move rfl rfl) ?_
   refine wa_takeP (i := 1) (d := 56) 22 rfl (by kernel_rfl) (by kernel_rfl) (by kernel_rfl) rfl rfl rfl (fun w6 => run_nilCheck rfl rfl) ?_
   refine wa_takeP (i := 2) (d := 57) 21 rfl (by kernel_rfl) (by kernel_rfl) (by kernel_rfl) rfl rfl rfl (fun w7 => run_fieldAddr rfl rfl Try.underlying80 rfl (ce50) (nf50)) ?_
   refine wa_take (i := 3) (d := 58) 20 rfl (by kernel_rfl) (by kernel_rfl) (by kernel_rfl) rfl rfl rfl (fun M4 N4 w8 hle5 S8 => .inl (run_load1 rfl rfl Try.underlying50 rfl (S8.suf.boxc (i := 0) rfl rfl))) ?_
   refine wa_takeP (i := 4) (d := 59) 19 rfl (by kernel_rfl) (by kernel_rfl) (by kernel_rfl) rfl rfl rfl (fun w9 => run_nilCheck rfl rfl) ?_
   refine wa_takeP (i := 5) (d := 60) 18 rfl (by kernel_rfl) (by kernel_rfl) (by kernel_rfl) rfl rfl rfl (fun w10 => run_fieldAddr rfl rfl Try.underlying72 rfl (ce69) (nf69)) ?_
   refine wa_take (i := 6) (d := 61) 17 rfl (by kernel_rfl) (by kernel_rfl) (by kernel_rfl) rfl rfl rfl (fun M7 N7 w11 hle8 S11 => .inl (run_load1 rfl rfl Try.underlying69 rfl ((hbx.mono hle8).cell S11.m rfl))) ?_
   refine wa_takeP (i := 7) (d := 62) 16 rfl (by kernel_rfl) (by kernel_rfl) (by kernel_rfl) rfl rfl rfl (fun w12 => run_move rfl rfl) ?_
   refine wa_takeP (i := 8) (d := 63) 15 rfl (by kernel_rfl) (by kernel_rfl) (by kernel_rfl) rfl rfl rfl (fun w13 => run_move rfl rfl) ?_
   refine wa_takeP (i := 9) (d := 64) 14 rfl (by kernel_rfl) (by kernel_rfl) (by kernel_rfl) rfl rfl rfl (fun w14 => run_nilCheck rfl rfl) ?_
   refine wa_takeP (i := 10) (d := 65) 13 rfl (by kernel_rfl) (by kernel_rfl) (by kernel_rfl) rfl rfl rfl (fun w15 => run_fieldAddr rfl rfl Try.underlying80 rfl (ce50) (nf50)) ?_
   refine wa_take (i := 11) (d := 66) 12 rfl (by kernel_rfl) (by kernel_rfl) (by kernel_rfl) rfl rfl rfl (fun M12 N12 w16 hle13 S16 => .inl (run_load1 rfl rfl Try.underlying50 rfl (S16.suf.boxc (i := 0) rfl rfl))) ?_
   refine wa_takeP (i := 12) (d := 67) 11 rfl (by kernel_rfl) (by kernel_rfl) (by kernel_rfl) rfl rfl rfl (fun w17 => run_nilCheck rfl rfl) ?_
   refine wa_takeP (i := 13) (d := 68) 10 rfl (by kernel_rfl) (by kernel_rfl) (by kernel_rfl) rfl rfl rfl (fun w18 => run_fieldAddr rfl rfl Try.underlying72 rfl (ce70) (nf70)) ?_
   refine wa_take (i := 14) (d := 69) 9 rfl (by kernel_rfl) (by kernel_rfl) (by kernel_rfl) rfl rfl rfl (fun M15 N15 w19 hle16 S19 => .inl (run_load1 rfl rfl Try.underlying70 rfl ((hbx.mono hle16).cell S19.m rfl))) ?_
   refine wa_takeP (i := 15) (d := 70) 8 rfl (by kernel_rfl) (by kernel_rfl) (by kernel_rfl) rfl rfl rfl (fun w20 => run_move rfl rfl) ?_
   refine wa_takeP (i := 16) (d := 71) 7 rfl (by kernel_rfl) (by kernel_rfl) (by kernel_rfl) rfl rfl rfl (fun w21 => run_move rfl rfl) ?_
   refine wa_take (i := 17) (d := 72) 6 rfl (by kernel_rfl) (by kernel_rfl) (by kernel_rfl) rfl rfl rfl (fun M18 N18 w22 hle19 S22 => .inl (run_indexM (C := cdA4) W.s.c.toNat rfl rfl rfl sl70 (by first | rfl | omega) (hpl.mono hle19) (by first | omega | (simp only [lens]; omega)))) ?_
   refine wa_take (i := 18) (d := 73) 5 rfl (by kernel_rfl) (by kernel_rfl) (by kernel_rfl) rfl rfl rfl (fun M19 N19 w23 hle20 S23 => .inl (run_indexPX (((W.s.a + 2) % 4).toNat) 1 _ (adO plA + W.s.c.toNat * cdA4.k + (((W.s.a + 2) % 4).toNat)) rfl rfl rfl Try.underlying73 sz3 (by first | rfl | omega) (by first | omega | (simp only [lens]; omega)) (by show adO plA + W.s.c.toNat * cdA4.k + (((W.s.a + 2) % 4).toNat) * 1 = _; omega))) ?_
   refine wa_take (i := 19) (d := 74) 4 rfl (by kernel_rfl) (by kernel_rfl) (by kernel_rfl) rfl rfl rfl (fun M20 N20 w24 hle21 S24 => .inl (run_load1 rfl rfl Try.underlying3 rfl ((hpl.mono hle21).cell S24.m (i := W.s.c.toNat) (by first | omega | (simp only [lens]; omega)) (((W.s.a + 2) % 4).toNat) (blt_a4 (by first | omega | (simp only [lens]; omega))) (nth_a4 _ (by first | omega | (simp only [lens]; omega)))))) ?_
   refine wa_take (i := 20) (d := 75) 3 rfl (by kernel_rfl) (by kernel_rfl) (by kernel_rfl) rfl rfl rfl (fun M21 N21 w25 hle22 S25 => .inl (run_build (l := [_, _]) rfl rfl st65 rfl rfl)) ?_
   refine wa_take (i := 21) (d := 76) 2 rfl (by kernel_rfl) (by kernel_rfl) (by kernel_rfl) rfl rfl rfl (fun M22 N22 w26 hle23 S26 => .inl (run_lookupM (kc := (fun x => Value.agg (cdCo.f x).toArray)) (vc := (fun x => Value.agg (cdCo.f x).toArray)) (es := ti) (k := (⟨W.s.c, a4g (ga pl W.s.c.toNat) (((W.s.a + 2) % 4).toNat)⟩ : Sp)) (zv := (default : Sp)) rfl rfl rfl Try.underlying69 mk65 zr65 (hti.mono hle23) S26.m)) ?_
   refine wa_only (i := 22) 1 rfl (by kernel_rfl) rfl rfl (fun w28 S28 => ?_)
   refine (wo_alloc (l := [_, _]) rfl rfl rfl zr65 rfl S28 ?_)
   intro gb1 w29 S29; clear S28
   refine LeftW.grow [_] (Hp.le_refl _) S29 ?_; clear S29
   change WA _ _ _ _ _ _ _ _ _ _ _ _ [_, _, _, _, _]
   refine wa_only (i := 23) 0 rfl (by kernel_rfl) rfl rfl (fun w31 S31 => ?_)
   refine (wo_storeB (i := 0) (us := [_, _]) (l' := [_, _]) (H' := [_, _, _, _, _]) rfl rfl S31 rfl rfl rfl rfl sz65 rfl rfl rfl rfl ?_)
   intro w32 S32; clear S31
   refine LeftW.grow [_] (Hp.le_refl _) S32 ?_; clear S32
   change WA _ _ _ _ _ _ _ _ _ _ _ _ [_, _, _, _, _]
   refine wa_end (by kernel_rfl) (fun w33 S33 => ?_)
   refine nm_sub [(0, _), (3, _), (10, _)] ⟨rfl, rfl, rfl, trivial⟩ ?_
   refine nm_thn ?_
   refine ws_draw rfl (by kernel_rfl) S33 10 rfl ?_
   clear S33
   refine wa_takeP (i := 0) (d := 77) 9 rfl (by kernel_rfl) (by kernel_rfl) (by kernel_rfl) rfl rfl rfl (fun w34 => run_fieldAddr rfl rfl Try.underlying65 rfl (ce3) (nf3)) ?_
   refine wa_take (i := 1) (d := 78) 8 rfl (by kernel_rfl) (by kernel_rfl) (by kernel_rfl) rfl rfl rfl (fun M26 N26 w35 hle27 S35 => .inl (run_load1 rfl rfl Try.underlying3 rfl (S35.suf.boxc (i := 0) rfl rfl))) ?_
   refine wa_takeP (i := 2) (d := 79) 7 rfl (by kernel_rfl) (by kernel_rfl) (by kernel_rfl) rfl rfl rfl (fun w36 => run_move rfl rfl) ?_
   refine wa_takeP (i := 3) (d := 80) 6 rfl (by kernel_rfl) (by kernel_rfl) (by kernel_rfl) rfl rfl rfl (fun w37 => run_nilCheck rfl rfl) ?_
   refine wa_takeP (i := 4) (d := 81) 5 rfl (by kernel_rfl) (by kernel_rfl) (by kernel_rfl) rfl rfl rfl (fun w38 => run_fieldAddr rfl rfl Try.underlying80 rfl (ce77) (nf77)) ?_
   refine wa_take (i := 5) (d := 82) 4 rfl (by kernel_rfl) (by kernel_rfl) (by kernel_rfl) rfl rfl rfl (fun M30 N30 w39 hle31 S39 => .inl (run_load1 rfl rfl Try.underlying77 rfl (S39.suf.boxc (i := 1) rfl rfl))) ?_
   refine wa_take (i := 6) (d := 83) 3 rfl (by kernel_rfl) (by kernel_rfl) (by kernel_rfl) rfl rfl rfl (fun M31 N31 w40 hle32 S40 => .inl (run_loadN (us := [_, _]) rfl rfl Try.underlying65 rfl sz65 (S40.suf.boxcs (i := 0) rfl ⟨rfl, rfl, trivial⟩))) ?_
   refine wa_take (i := 7) (d := 84) 2 rfl (by kernel_rfl) (by kernel_rfl) (by kernel_rfl) rfl rfl rfl (fun M32 N32 w41 hle33 S41 => .inl (run_lookup (kc := (fun x => Value.agg (cdCo.f x).toArray)) (vc := (Value.int .i64)) (es := pm) (k := ((mg (⟨W.s.c, a4g (ga pl W.s.c.toNat) (((W.s.a + 2) % 4).toNat)⟩ : Sp) ti).getD (default : Sp))) (zv := 0) (i := 2) rfl rfl rfl Try.underlying77 mk65 zr3 S41.suf rfl)) ?_
   refine wa_takeP (i := 8) (d := 1) 1 rfl (by kernel_rfl) (by kernel_rfl) (by kernel_rfl) rfl rfl rfl (fun w42 => run_assign rfl rfl) ?_
   refine wa_takeP (i := 9) (d := 2) 0 rfl (by kernel_rfl) (by kernel_rfl) (by kernel_rfl) rfl rfl rfl (fun w43 => run_assign rfl rfl) ?_
   refine wa_end (by kernel_rfl) (fun w44 S44 => ?_)
   refine nm_blk ?_
   refine nm_lp ?_
   rw [hw1, hw2]
   intro ax_ hax_
   refine ⟨_, ?hq2m, ⟨stepW pi W, rfl, hax_.sub ⟨rfl, rfl, rfl, rfl, trivial⟩, S44.pick [1, 2, 3, 4] [_, _, _, _] (by decide) ⟨rfl, rfl, rfl, rfl, trivial⟩, ?hq2f0, ?hq2f1, ?hq2f2, ?hq2f3⟩⟩
   case hq2f0 => exact hW.step hp
   case hq2f1 => (rw [← hfull]; exact (full_step hW hvis).symm)
   case hq2f2 => (show W.n + 1 + _ = _; omega)
   case hq2f3 => (show _ ≤ W.n + 1; omega)
   case hq2m => omega
  ·replace hb21 := of_decide_eq_false hb21
   refine ws_exit rfl rfl ?_
   refine nm_sub [(3, _)] ⟨rfl, trivial⟩ ?_
   refine nm_thn ?_
   refine ws_seqN Walk_n26 Walk_n27 rfl rfl rfl ?_
   refine ws_region rfl ?_
   refine wlm 0 1 rfl rfl rfl rfl rfl rfl rfl ?_
   refine wla 1 2 rfl rfl rfl rfl rfl rfl rfl ?_
   refine wl_end rfl ?_
   refine nm_sub [(8, _)] ⟨rfl, trivial⟩ ?_
   refine nm_thn ?_
   refine ws_ret hC [_] rfl rfl ⟨rfl, trivial⟩ ?_
   refine ⟨_, rfl, _, _, Hp.le_refl _, (S1.pick [0, 1, 2, 3] [_, _, _, _] (by decide) ⟨rfl, rfl, rfl, rfl, trivial⟩).bun, ?_⟩
   rw [hgin] at hb21
   have hvis : visW W := by unfold visW; omega
   rw [← hfull, full_vis pi hvis]
   exact ⟨rfl, rfl, rfl⟩
end Go.Proofs.Ytkgofmloleicgaa
