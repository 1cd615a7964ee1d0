/- Part 5 of the proof of the law TangleLinks: the walks through its functions and the plain laws that they need. -/
import Derived.Test.YtkgofmloleicgaaTlZ4
set_option linter.unusedSimpArgs false
set_option linter.unusedVariables false
namespace Go.Proofs.Ytkgofmloleicgaa
open Go.ChangeShapes Go.WideShapes Go.ChangeAt Go.RowKit
theorem tb_ext {A B : List (List Int)} {n k : Nat} (hA : Tb A n k) (hB : Tb B n k) (h : ∀ c, c < n → ∀ p, p < k → ga (ga A c) p = ga (ga B c) p) : A = B := by
 refine ga_ext (by rw [hA.1, hB.1]) fun c hc => ?_
 have hc' : c < n := by rw [← hA.1]; exact hc
 exact ga_ext (by rw [hA.2 c hc', hB.2 c hc']) fun p hp => h c hc' p (by rw [← hA.2 c hc']; exact hp)
/-- The first k cells are changed by f. -/
def replT (f : Int → Int) (k : Nat) (L : List (List Int)) : List (List Int) := L.mapIdx fun c l => l.mapIdx fun i a => if 4 * c + i < k then f a else a
theorem ga_mapIdx {α β : Type} [Inhabited α] [Inhabited β] (f : Nat → α → β) (l : List α) {i : Nat} (h : i < l.length) : ga (l.mapIdx f) i = f i (ga l i) := by
 rw [ga_eq (by simpa using h), ga_eq h, List.getElem_mapIdx]
section
variable {f : Int → Int} {k n : Nat} {L : List (List Int)}
theorem replT_get (h : Tb L n 4) {c p : Nat} (hc : c < n) (hp : p < 4) : ga (ga (replT f k L) c) p = if 4 * c + p < k then f (ga (ga L c) p) else ga (ga L c) p := by
 unfold replT
 rw [ga_mapIdx _ _ (by rw [h.1]; exact hc), ga_mapIdx _ _ (by rw [h.2 c hc]; exact hp)]
theorem replT_tb (h : Tb L n 4) : Tb (replT f k L) n 4 := by
 refine ⟨by unfold replT; rw [List.length_mapIdx, h.1], fun c hc => ?_⟩
 unfold replT
 rw [ga_mapIdx _ _ (by rw [h.1]; exact hc), List.length_mapIdx, h.2 c hc]
theorem replT_zero (h : Tb L n 4) : replT f 0 L = L := tb_ext (replT_tb h) h fun c hc p hp => by rw [replT_get h hc hp, if_neg (by omega)]
theorem replT_all (h : Tb L n 4) : replT f (4 * n) L = L.map fun l => l.map f := by
 have hm : Tb (L.map fun l => l.map f) n 4 := ⟨by rw [List.length_map, h.1], fun c hc => by rw [ga_map _ _ _ (by rw [h.1]; exact hc), List.length_map, h.2 c hc]⟩
 refine tb_ext (replT_tb h) hm fun c hc p hp => ?_
 rw [replT_get h hc hp, if_pos (by omega), ga_map _ _ _ (by rw [h.1]; exact hc), ga_map _ _ _ (by rw [h.2 c hc]; exact hp)]
theorem replT_set (h : Tb L n 4) {c p : Nat} (hc : c < n) (hp : p < 4) {v : Int} (hv : v = f (ga (ga L c) p)) : set2 (replT f (4 * c + p) L) (c : Int) (p : Int) v = replT f (4 * c + (p + 1)) L := by
 have hT := replT_tb (f := f) (k := 4 * c + p) h
 refine tb_ext (hT.set2 _ _ _) (replT_tb h) fun c' hc' p' hp' => ?_
 have e := at2_set2 hT v (c := (c : Int)) (p := (p : Int)) (c' := (c' : Int)) (p' := (p' : Int)) (by omega) (by omega) (by omega) (by omega)
 unfold at2 at e
 simp only [Int.toNat_natCast] at e
 rw [e, replT_get h hc' hp', replT_get h hc' hp']
 by_cases hh : c' = c ∧ p' = p
 ·obtain ⟨rfl, rfl⟩ := hh
  rw [if_pos ⟨rfl, rfl⟩, if_pos (by omega), hv]
 ·rw [if_neg (by omega)]
  by_cases h3 : 4 * c' + p' < 4 * c + p
  ·rw [if_pos h3, if_pos (by omega)]
  ·rw [if_neg h3, if_neg (by omega)]
theorem replT_same (h : Tb L n 4) {c p : Nat} (hc : c < n) (hp : p < 4) (hv : f (ga (ga L c) p) = ga (ga L c) p) : replT f (4 * c + p) L = replT f (4 * c + (p + 1)) L := by
 refine tb_ext (replT_tb h) (replT_tb h) fun c' hc' p' hp' => ?_
 rw [replT_get h hc' hp', replT_get h hc' hp']
 by_cases hh : c' = c ∧ p' = p
 ·obtain ⟨rfl, rfl⟩ := hh
  rw [if_neg (by omega), if_pos (by omega), hv]
 ·by_cases h3 : 4 * c' + p' < 4 * c + p
  ·rw [if_pos h3, if_pos (by omega)]
  ·rw [if_neg h3, if_neg (by omega)]
/-- A row that is not yet reached. -/
theorem replT_row (h : Tb L n 4) {c : Nat} (hc : c < n) {p : Nat} (hp : p < 4) : ga [(ga ((replT f (4 * c) L).map toA4) c).a, (ga ((replT f (4 * c) L).map toA4) c).b, (ga ((replT f (4 * c) L).map toA4) c).c, (ga ((replT f (4 * c) L).map toA4) c).d] p = ga (ga L c) p := by
 have hT := replT_tb (f := f) (k := 4 * c) h
 rw [ga_map _ _ _ (by rw [hT.1]; exact hc)]
 have e : ∀ q, q < 4 → ga (ga (replT f (4 * c) L) c) q = ga (ga L c) q := fun q hq => by rw [replT_get h hc hq, if_neg (by omega)]
 have : p = 0 ∨ p = 1 ∨ p = 2 ∨ p = 3 := by omega
 rcases this with rfl | rfl | rfl | rfl
 ·exact e 0 (by omega)
 ·exact e 1 (by omega)
 ·exact e 2 (by omega)
 ·exact e 3 (by omega)
end
def rplF (e v : Int) : Int → Int := fun a => if a = e then v else a
theorem rplF_eq {e v a : Int} (h : a = e) : rplF e v a = v := by unfold rplF; rw [if_pos h]
theorem rplF_ne {e v a : Int} (h : ¬ a = e) : rplF e v a = a := by unfold rplF; rw [if_neg h]
theorem rngS_n {pi : Sp → Sp} {r : Rst} {s : Sp} (hv : ¬ 0 ≤ at2 r.inn s.c s.a) : (rngS pi r s).n = (rw_ pi r s).n ∧ (rngS pi r s).inn = (rw_ pi r s).inn := by unfold rngS; rw [if_neg hv]; exact ⟨rfl, rfl⟩
theorem rng_tb {n : Nat} {pi : Sp → Sp} {r : Rst} {s : Sp} (hp : PiOk n pi) (h : ROk r n pi) (hs : Rl n s) (hv : ¬ 0 ≤ at2 r.inn s.c s.a) : Tb (rw_ pi r s).ar n 4 := by
 have key : ∀ (k : Nat) (w : Ws), OkW n w → OkW n (wk pi k w) := by
  intro k
  induction k with
  | zero => intro w h; exact h
  | succ k ih =>
   intro w h
   rw [wk]
   split
   ·exact h
   ·exact ih _ (h.step hp)
 exact (key _ _ ⟨h.ar, h.inn, hs⟩).ar
noncomputable def Ring_n0 : Code := Try.f34.body.getD .skip
noncomputable def Ring_n1 : Code := cL Ring_n0
noncomputable def Ring_n2 : Code := cR Ring_n0
noncomputable def Ring_n3 : Code := cL Ring_n2
noncomputable def Ring_n4 : Code := cR Ring_n2
noncomputable def Ring_n5 : Code := cL Ring_n4
noncomputable def Ring_n6 : Code := cR Ring_n4
noncomputable def Ring_n7 : Code := cL Ring_n5
noncomputable def Ring_n8 : Code := cR Ring_n5
noncomputable def Ring_n9 : Code := cL Ring_n8
noncomputable def Ring_n10 : Code := cL Ring_n9
noncomputable def Ring_n11 : Code := cL Ring_n10
noncomputable def Ring_n12 : Code := cR Ring_n10
noncomputable def Ring_n13 : Code := cL Ring_n12
noncomputable def Ring_n14 : Code := cR Ring_n12
noncomputable def Ring_n15 : Code := cL Ring_n13
noncomputable def Ring_n16 : Code := cR Ring_n13
noncomputable def Ring_n17 : Code := cL Ring_n14
noncomputable def Ring_n18 : Code := cR Ring_n14
noncomputable def Ring_n19 : Code := cL Ring_n17
noncomputable def Ring_n20 : Code := cL Ring_n19
noncomputable def Ring_n21 : Code := cR Ring_n19
noncomputable def Ring_n22 : Code := cL Ring_n21
noncomputable def Ring_n23 : Code := cR Ring_n21
noncomputable def Ring_n24 : Code := cL Ring_n23
noncomputable def Ring_n25 : Code := cL Ring_n24
noncomputable def Ring_n26 : Code := cL Ring_n25
noncomputable def Ring_n27 : Code := cR Ring_n25
noncomputable def Ring_n28 : Code := cL Ring_n27
noncomputable def Ring_n29 : Code := cR Ring_n27
noncomputable def Ring_n30 : Code := cL Ring_n28
noncomputable def Ring_n31 : Code := cR Ring_n28
noncomputable def Ring_n32 : Code := cL Ring_n29
noncomputable def Ring_n33 : Code := cR Ring_n29
noncomputable def Ring_n34 : Code := cL Ring_n32
noncomputable def Ring_n35 : Code := cL Ring_n34
noncomputable def Ring_n36 : Code := cR Ring_n34
noncomputable def Ring_n37 : Code := cL Ring_n36
noncomputable def Ring_n38 : Code := cR Ring_n36
noncomputable def Ring_n39 : Code := cL Ring_n38
noncomputable def Ring_n40 : Code := cR Ring_n38
noncomputable def Ring_n41 : Code := cL Ring_n6
noncomputable def Ring_n42 : Code := cR Ring_n6
set_option maxRecDepth 10000 in
theorem Ring_b {w : World} {M : Hp} {X : Fr} {n : Nat} (m : Int) (pi : Sp → Sp) {gt gti : Nat} {E : Nat → En} {plA : Option Addr} {plc : Nat} {pl : List A4} {ti : List (Sp × Sp)} {lp : Int} {gwb gpm : Nat} {var vinn : Value} (pm : List (Sp × Int)) (L N : List (List Int)) (c : Int) (a : Int) (hbx : BxM M gt 72 (en4 E [.slice plA pl.length plc, .map (some gti), .int .i64 lp])) (hpl : RdA cdA4 M plA plc pl) (hti : MpOk (fun x => Value.agg (cdCo.f x).toArray) (fun x => Value.agg (cdCo.f x).toArray) gti ti M) (hp : PiOk n pi) (hways : Ways n pl ti pm pi) (hL : Tb L n 4) (hN : Tb N n 2) (hs : Rl n ⟨c, a⟩) (hm : 0 ≤ m ∧ m + negs N ≤ 1000) (hx : ROk ⟨L, N, m⟩ n pi ∧ a < 2 ∧ ¬ 0 ≤ at2 N c a ∧ n ≤ 16) (S : SH w M X [Rs.bun [Rs.box gwb 80 [.pointer (some ⟨gt, 0, none⟩), .map (some gpm), var, vinn], Rs.mp (fun x => Value.agg (cdCo.f x).toArray) (Value.int .i64) gpm pm, Rs.row cdA4 var (L.map toA4), Rs.row cdA2 vinn (N.map toA2)]]) : C1 Try.prog 34 [.pointer (some ⟨gwb, 0, none⟩), .int .i64 c, .int .i64 a, .int .i64 (m + 1)] w M X (fun u M' r' => u = .int .i64 ((rngS pi ⟨L, N, m⟩ ⟨c, a⟩).n + 1) ∧ M' = M ∧ r' = Rs.bun (wkB gwb gt gpm var vinn pm (rngS pi ⟨L, N, m⟩ ⟨c, a⟩).ar (rngS pi ⟨L, N, m⟩ ⟨c, a⟩).inn)) := by
 unfold C1
 replace S := S.unbun
 obtain ⟨hx, ha2, hv, hn16⟩ := hx
 obtain ⟨⟨hI, hI2, _⟩, hrn⟩ := And.intro (rng_spec hp hx hs ha2) (rngS_n hv (pi := pi) (r := ⟨L, N, m⟩) (s := ⟨c, a⟩))
 have hT1 : Tb (fullW pi ⟨L, N, m, ⟨c, a⟩⟩).ar n 4 := rng_tb hp hx hs hv
 have hrl : ((fullW pi ⟨L, N, m, ⟨c, a⟩⟩).ar.map toA4).length = n := by rw [List.length_map, hT1.1]
 refine calls_in (b := Ring_n0) Try.func34 rfl Try.ntmps34 rfl (fun C hC => ?_)
 refine ws_sub [(0, _), (1, _), (2, _), (3, _)] ⟨rfl, rfl, rfl, rfl, trivial⟩ ?_
 refine ws_seqN Ring_n1 Ring_n2 rfl rfl rfl ?_
 refine ws_region rfl ?_
 refine wla 0 1 rfl rfl rfl rfl rfl rfl rfl ?_
 refine wl_end rfl ?_
 refine nm_sub [(0, _), (1, _), (2, _), (3, _)] ⟨rfl, rfl, rfl, rfl, trivial⟩ ?_
 refine nm_thn ?_
 refine ws_seqN Ring_n3 Ring_n4 rfl rfl rfl ?_
 refine ws_region rfl ?_
 refine wlm 0 1 rfl rfl rfl rfl rfl rfl rfl ?_
 refine wlm 1 2 rfl rfl rfl rfl rfl rfl rfl ?_
 refine wlm 2 3 rfl rfl rfl rfl rfl rfl rfl ?_
 refine wlm 3 4 rfl rfl rfl rfl rfl rfl rfl ?_
 have S1 := S.pick [0, 1, 2, 3] [_, _, _, _] (by decide) ⟨rfl, rfl, rfl, rfl, trivial⟩; clear S
 have S2 : SH _ _ _ (Rs.bun [_, _, _, _] :: []) := SH.bunC (A := [_, _, _, _]) (B := []) S1; clear S1
 have S3 : SH _ _ _ [_] := S2.less (i := 0) rfl
 have hcall1 := Walk_b m pi pm L N c a hbx hpl hti (by first | omega | (simp only [lens]; omega)) (by first | omega | (simp only [lens]; omega)) (by first | omega | (simp only [lens]; omega)) (by first | omega | (simp only [lens]; omega)) (by first | omega | (simp only [lens]; omega)) (by first | omega | (simp only [lens]; omega)) (S2.lend1 (i := 0) rfl); clear S3
 refine wlo 4 5 rfl rfl rfl (wo_c1 (i := 0) rfl rfl rfl rfl rfl rfl rfl cf38 S2 rfl hcall1 ?_)
 intro vw1 w1 M1 rw1 hle1 S4 hR1; clear S2
 obtain ⟨huhMX1, hMX1, hR2⟩ := hR1
 rw [hMX1] at S4
 clear hMX1
 subst huhMX1
 subst hR2
 replace S4 : SH _ _ _ (Rs.bun [_, _, _, _] :: []) := S4
 have S5 : SH _ _ _ [_, _, _, _] := SH.unbunC (A := [_, _, _, _]) (B := []) S4; clear S4
 refine wla 5 6 rfl rfl rfl rfl rfl rfl rfl ?_
 refine wl_end rfl ?_
 refine nm_sub [(0, _), (3, _), (9, _)] ⟨rfl, rfl, rfl, trivial⟩ ?_
 refine nm_thn ?_
 refine ws_seqN Ring_n5 Ring_n6 rfl rfl rfl ?_
 refine ws_seqN Ring_n7 Ring_n8 rfl rfl rfl ?_
 have hrc1 : (((fullW pi ⟨L, N, m, ⟨c, a⟩⟩).ar).map toA4) = ((replT (rplF ((fullW pi ⟨L, N, m, ⟨c, a⟩⟩).n + 1) (m + 1)) (4 * 0) (fullW pi ⟨L, N, m, ⟨c, a⟩⟩).ar).map toA4) := by rw [replT_zero hT1]
 rw [hrc1] at S5; clear hrc1
 have hTl0 : ((replT (rplF ((fullW pi ⟨L, N, m, ⟨c, a⟩⟩).n + 1) (m + 1)) (4 * 0) (fullW pi ⟨L, N, m, ⟨c, a⟩⟩).ar).map toA4).length = n := by rw [List.length_map, (replT_tb hT1).1]
 refine ws_region rfl ?_
 refine wlm 0 1 rfl rfl rfl rfl rfl rfl rfl ?_
 refine wlo 1 2 rfl rfl rfl (wo_run rfl rfl (run_nilCheck rfl rfl) ?_)
 refine wlo 2 3 rfl rfl rfl (wo_run rfl rfl (run_fieldAddr rfl rfl Try.underlying80 rfl (ce70) (nf70)) ?_)
 refine wlo 3 4 rfl rfl rfl (wo_run rfl rfl (run_load1 rfl rfl Try.underlying70 rfl (S5.boxc (i := 0) rfl rfl)) ?_)
 refine wlo 4 5 rfl rfl rfl (wo_run rfl rfl (run_lenR (C := cdA4) (i := 2) rfl rfl rfl rfl rfl rfl sl70 S5 rfl) ?_)
 refine wlm 5 6 rfl rfl rfl rfl rfl rfl rfl ?_
 refine wl_end rfl ?_
 refine nm_sub [(0, _), (3, _), (9, _), (22, _), (23, _)] ⟨rfl, rfl, rfl, rfl, rfl, trivial⟩ ?_
 refine nm_thn ?_
 refine ws_blockN Ring_n9 0 rfl rfl rfl ?_
 refine ws_loopE (fun mx_ ax_ wx_ => ∃ (i : Nat), mx_ = n - 1 * i ∧ Env 52 [(0, .pointer (some ⟨gwb, 0, none⟩)), (3, .int .i64 (m + 1)), (9, .int .i64 ((fullW pi ⟨L, N, m, ⟨c, a⟩⟩).n + 1)), (22, .int .i64 (((replT (rplF ((fullW pi ⟨L, N, m, ⟨c, a⟩⟩).n + 1) (m + 1)) (4 * 0) (fullW pi ⟨L, N, m, ⟨c, a⟩⟩).ar).map toA4).length : Int)), (23, .int .i64 (i : Int))] ax_ ∧ SH wx_ M X [Rs.box gwb 80 [.pointer (some ⟨gt, 0, none⟩), .map (some gpm), var, vinn], Rs.mp (fun x => Value.agg (cdCo.f x).toArray) (Value.int .i64) gpm pm, Rs.row cdA4 var ((replT (rplF ((fullW pi ⟨L, N, m, ⟨c, a⟩⟩).n + 1) (m + 1)) (4 * i) (fullW pi ⟨L, N, m, ⟨c, a⟩⟩).ar).map toA4), Rs.row cdA2 vinn (((fullW pi ⟨L, N, m, ⟨c, a⟩⟩).inn).map toA2)] ∧ i ≤ n) rfl ?_ ?_
 ·intro ax_ hax_
  refine ⟨_, ⟨0, rfl, hax_.sub ⟨rfl, rfl, rfl, rfl, rfl, trivial⟩, S5.pick [0, 1, 2, 3] [_, _, _, _] (by decide) ⟨rfl, rfl, rfl, rfl, trivial⟩, ?hq1f0⟩⟩
  case hq1f0 => exact Nat.zero_le _
 ·rintro m1 a1 w2 ⟨i, rfl, he1, S6, hi⟩
  clear S5
  refine ws_in he1 (c := Ring_n10) rfl ?_
  clear he1 a1
  have hTl : ((replT (rplF ((fullW pi ⟨L, N, m, ⟨c, a⟩⟩).n + 1) (m + 1)) (4 * i) (fullW pi ⟨L, N, m, ⟨c, a⟩⟩).ar).map toA4).length = n := by rw [List.length_map, (replT_tb hT1).1]
  refine ws_seqN Ring_n11 Ring_n12 rfl rfl rfl ?_
  refine ws_region rfl ?_
  refine wlo 0 1 rfl rfl rfl (wo_run rfl rfl (run_lss rfl rfl rfl) ?_)
  refine wl_end rfl ?_
  refine nm_thn ?_
  refine ws_seqN Ring_n13 Ring_n14 rfl rfl rfl ?_
  refine ws_condN Ring_n15 Ring_n16 rfl rfl rfl rfl (fun hb24 => ?_) (fun hb24 => ?_)
  ·replace hb24 := of_decide_eq_true hb24
   refine ws_skip rfl ?_
   refine nm_sub [(0, _), (3, _), (9, _), (22, _), (23, _)] ⟨rfl, rfl, rfl, rfl, rfl, trivial⟩ ?_
   refine nm_thn ?_
   refine ws_seqN Ring_n17 Ring_n18 rfl rfl rfl ?_
   refine ws_blockN Ring_n19 1 rfl rfl rfl ?_
   refine ws_seqN Ring_n20 Ring_n21 rfl rfl rfl ?_
   refine ws_region rfl ?_
   refine wlm 0 1 rfl rfl rfl rfl rfl rfl rfl ?_
   refine wla 1 2 rfl rfl rfl rfl rfl rfl rfl ?_
   refine wl_end rfl ?_
   refine nm_sub [(0, _), (3, _), (9, _), (22, _), (23, _), (10, _)] ⟨rfl, rfl, rfl, rfl, rfl, rfl, trivial⟩ ?_
   refine nm_thn ?_
   refine ws_seqN Ring_n22 Ring_n23 rfl rfl rfl ?_
   refine ws_region rfl ?_
   refine wlm 0 1 rfl rfl rfl rfl rfl rfl rfl ?_
   refine wlo 1 2 rfl rfl rfl (wo_run rfl rfl (run_nilCheck rfl rfl) ?_)
   refine wlo 2 3 rfl rfl rfl (wo_run rfl rfl (run_fieldAddr rfl rfl Try.underlying80 rfl (ce70) (nf70)) ?_)
   refine wlo 3 4 rfl rfl rfl (wo_run rfl rfl (run_load1 rfl rfl Try.underlying70 rfl (S6.boxc (i := 0) rfl rfl)) ?_)
   refine wlm 4 5 rfl rfl rfl rfl rfl rfl rfl ?_
   refine wlo 5 6 rfl rfl rfl (wo_run rfl rfl (run_indexR (C := cdA4) (i := 2) i rfl rfl rfl sl70 S6 rfl (by first | rfl | omega) (by first | omega | (simp only [lens]; omega))) ?_)
   refine wlo 6 7 rfl rfl rfl (wo_run rfl rfl (run_loadN (us := [_, _, _, _]) rfl rfl Try.underlying73 rfl sz73 (S6.rowcs (i := 2) (e := i) (j := 0) rfl (by first | omega | (simp only [lens]; omega)) ⟨rfl, rfl, rfl, rfl, trivial⟩)) ?_)
   refine wlm 7 8 rfl rfl rfl rfl rfl rfl rfl ?_
   refine wl_end rfl ?_
   refine nm_sub [(0, _), (3, _), (9, _), (22, _), (23, _), (10, _), (32, _), (33, _)] ⟨rfl, rfl, rfl, rfl, rfl, rfl, rfl, rfl, trivial⟩ ?_
   refine nm_thn ?_
   refine ws_blockN Ring_n24 2 rfl rfl rfl ?_
   refine ws_loopE (fun mx_ ax_ wx_ => ∃ (j : Nat), mx_ = 4 - 1 * j ∧ Env 52 [(0, .pointer (some ⟨gwb, 0, none⟩)), (3, .int .i64 (m + 1)), (9, .int .i64 ((fullW pi ⟨L, N, m, ⟨c, a⟩⟩).n + 1)), (22, .int .i64 (((replT (rplF ((fullW pi ⟨L, N, m, ⟨c, a⟩⟩).n + 1) (m + 1)) (4 * 0) (fullW pi ⟨L, N, m, ⟨c, a⟩⟩).ar).map toA4).length : Int)), (23, .int .i64 (i : Int)), (10, .int .i64 (i : Int)), (32, .agg [.int .i64 ((ga ((replT (rplF ((fullW pi ⟨L, N, m, ⟨c, a⟩⟩).n + 1) (m + 1)) (4 * i) (fullW pi ⟨L, N, m, ⟨c, a⟩⟩).ar).map toA4) i).a), .int .i64 ((ga ((replT (rplF ((fullW pi ⟨L, N, m, ⟨c, a⟩⟩).n + 1) (m + 1)) (4 * i) (fullW pi ⟨L, N, m, ⟨c, a⟩⟩).ar).map toA4) i).b), .int .i64 ((ga ((replT (rplF ((fullW pi ⟨L, N, m, ⟨c, a⟩⟩).n + 1) (m + 1)) (4 * i) (fullW pi ⟨L, N, m, ⟨c, a⟩⟩).ar).map toA4) i).c), .int .i64 ((ga ((replT (rplF ((fullW pi ⟨L, N, m, ⟨c, a⟩⟩).n + 1) (m + 1)) (4 * i) (fullW pi ⟨L, N, m, ⟨c, a⟩⟩).ar).map toA4) i).d)].toArray), (33, .int .i64 (j : Int))] ax_ ∧ SH wx_ M X [Rs.box gwb 80 [.pointer (some ⟨gt, 0, none⟩), .map (some gpm), var, vinn], Rs.mp (fun x => Value.agg (cdCo.f x).toArray) (Value.int .i64) gpm pm, Rs.row cdA4 var ((replT (rplF ((fullW pi ⟨L, N, m, ⟨c, a⟩⟩).n + 1) (m + 1)) (4 * i + j) (fullW pi ⟨L, N, m, ⟨c, a⟩⟩).ar).map toA4), Rs.row cdA2 vinn (((fullW pi ⟨L, N, m, ⟨c, a⟩⟩).inn).map toA2)] ∧ j ≤ 4) rfl ?_ ?_
   ·intro ax_ hax_
    refine ⟨_, ⟨0, rfl, hax_.sub ⟨rfl, rfl, rfl, rfl, rfl, rfl, rfl, rfl, trivial⟩, S6.pick [0, 1, 2, 3] [_, _, _, _] (by decide) ⟨rfl, rfl, rfl, rfl, trivial⟩, ?hq2f0⟩⟩
    case hq2f0 => exact Nat.zero_le _
   ·rintro m2 a2 w3 ⟨j, rfl, he2, S7, hj⟩
    clear S6
    refine ws_in he2 (c := Ring_n25) rfl ?_
    clear he2 a2
    have hTl2 : ((replT (rplF ((fullW pi ⟨L, N, m, ⟨c, a⟩⟩).n + 1) (m + 1)) (4 * i + j) (fullW pi ⟨L, N, m, ⟨c, a⟩⟩).ar).map toA4).length = n := by rw [List.length_map, (replT_tb hT1).1]
    have hrow := fun h4 => replT_row (f := (rplF ((fullW pi ⟨L, N, m, ⟨c, a⟩⟩).n + 1) (m + 1))) hT1 (c := i) (p := j) (by omega) h4
    refine ws_seqN Ring_n26 Ring_n27 rfl rfl rfl ?_
    refine ws_region rfl ?_
    refine wlo 0 1 rfl rfl rfl (wo_run rfl rfl (run_lss rfl rfl rfl) ?_)
    refine wl_end rfl ?_
    refine nm_thn ?_
    refine ws_seqN Ring_n28 Ring_n29 rfl rfl rfl ?_
    refine ws_condN Ring_n30 Ring_n31 rfl rfl rfl rfl (fun hb34 => ?_) (fun hb34 => ?_)
    ·replace hb34 := of_decide_eq_true hb34
     refine ws_skip rfl ?_
     refine nm_sub [(0, _), (3, _), (9, _), (22, _), (23, _), (10, _), (32, _), (33, _)] ⟨rfl, rfl, rfl, rfl, rfl, rfl, rfl, rfl, trivial⟩ ?_
     refine nm_thn ?_
     refine ws_seqN Ring_n32 Ring_n33 rfl rfl rfl ?_
     refine ws_blockN Ring_n34 3 rfl rfl rfl ?_
     refine ws_seqN Ring_n35 Ring_n36 rfl rfl rfl ?_
     refine ws_region rfl ?_
     refine wlm 0 1 rfl rfl rfl rfl rfl rfl rfl ?_
     refine wlo 1 2 rfl rfl rfl (wo_run rfl rfl (run_index1 (e := j) rfl rfl rfl Try.underlying73 Try.underlying3 rfl sz3 (by first | rfl | omega) (by first | omega | (simp only [lens]; omega)) (nth_iv [(ga ((replT (rplF ((fullW pi ⟨L, N, m, ⟨c, a⟩⟩).n + 1) (m + 1)) (4 * i) (fullW pi ⟨L, N, m, ⟨c, a⟩⟩).ar).map toA4) i).a, (ga ((replT (rplF ((fullW pi ⟨L, N, m, ⟨c, a⟩⟩).n + 1) (m + 1)) (4 * i) (fullW pi ⟨L, N, m, ⟨c, a⟩⟩).ar).map toA4) i).b, (ga ((replT (rplF ((fullW pi ⟨L, N, m, ⟨c, a⟩⟩).n + 1) (m + 1)) (4 * i) (fullW pi ⟨L, N, m, ⟨c, a⟩⟩).ar).map toA4) i).c, (ga ((replT (rplF ((fullW pi ⟨L, N, m, ⟨c, a⟩⟩).n + 1) (m + 1)) (4 * i) (fullW pi ⟨L, N, m, ⟨c, a⟩⟩).ar).map toA4) i).d] j (by simp; first | omega | (simp only [lens]; omega)))) ?_)
     refine wla 2 3 rfl rfl rfl rfl rfl rfl rfl ?_
     refine wla 3 4 rfl rfl rfl rfl rfl rfl rfl ?_
     refine wl_end rfl ?_
     refine nm_sub [(0, _), (3, _), (9, _), (22, _), (23, _), (10, _), (32, _), (33, _), (11, _), (12, _)] ⟨rfl, rfl, rfl, rfl, rfl, rfl, rfl, rfl, rfl, rfl, trivial⟩ ?_
     refine nm_thn ?_
     refine ws_seqN Ring_n37 Ring_n38 rfl rfl rfl ?_
     refine ws_region rfl ?_
     refine wlm 0 1 rfl rfl rfl rfl rfl rfl rfl ?_
     refine wlm 1 2 rfl rfl rfl rfl rfl rfl rfl ?_
     refine wlo 2 3 rfl rfl rfl (wo_run rfl rfl (run_eql rfl rfl rfl) ?_)
     refine wl_end rfl ?_
     refine nm_sub [(0, _), (3, _), (9, _), (22, _), (23, _), (10, _), (32, _), (33, _), (11, _), (39, _)] ⟨rfl, rfl, rfl, rfl, rfl, rfl, rfl, rfl, rfl, rfl, trivial⟩ ?_
     refine nm_thn ?_
     refine ws_condN Ring_n39 Ring_n40 rfl rfl rfl rfl (fun hb39 => ?_) (fun hb39 => ?_)
     ·replace hb39 := of_decide_eq_true hb39
      refine ws_region rfl ?_
      refine wlm 0 1 rfl rfl rfl rfl rfl rfl rfl ?_
      refine wlo 1 2 rfl rfl rfl (wo_run rfl rfl (run_nilCheck rfl rfl) ?_)
      refine wlo 2 3 rfl rfl rfl (wo_run rfl rfl (run_fieldAddr rfl rfl Try.underlying80 rfl (ce70) (nf70)) ?_)
      refine wlo 3 4 rfl rfl rfl (wo_run rfl rfl (run_load1 rfl rfl Try.underlying70 rfl (S7.boxc (i := 0) rfl rfl)) ?_)
      refine wlm 4 5 rfl rfl rfl rfl rfl rfl rfl ?_
      refine wlm 5 6 rfl rfl rfl rfl rfl rfl rfl ?_
      refine wlm 6 7 rfl rfl rfl rfl rfl rfl rfl ?_
      refine wlo 7 8 rfl rfl rfl (wo_run rfl rfl (run_indexR (C := cdA4) (i := 2) i rfl rfl rfl sl70 S7 rfl (by first | rfl | omega) (by first | omega | (simp only [lens]; omega))) ?_)
      refine wlo 8 9 rfl rfl rfl (wo_run rfl rfl (run_indexPX j 1 _ (i * cdA4.k + j) rfl rfl rfl Try.underlying73 sz3 (by first | rfl | omega) (by first | omega | (simp only [lens]; omega)) (by show i * cdA4.k + 0 * 1 + j * 1 = _; omega)) ?_)
      refine wlo 9 10 rfl rfl rfl (wo_storeR (C := cdA4) (i := 2) (e := i) (j := j) (us := [_]) (H' := [_, _, _, _]) (a4s (ga ((replT (rplF ((fullW pi ⟨L, N, m, ⟨c, a⟩⟩).n + 1) (m + 1)) (4 * i + j) (fullW pi ⟨L, N, m, ⟨c, a⟩⟩).ar).map toA4) i) j (m + 1)) rfl rfl S7 rfl (by first | omega | (simp only [lens]; omega)) rfl rfl rfl sz3 (ble_a4 (by first | omega | (simp only [lens]; omega))) rfl (spl_a4 _ _ (by first | omega | (simp only [lens]; omega))) rfl ?_)
      intro w4 S8; clear S7
      refine wl_end rfl ?_
      refine nm_blk ?_
      refine nm_sub [(0, _), (3, _), (9, _), (22, _), (23, _), (10, _), (32, _), (33, _)] ⟨rfl, rfl, rfl, rfl, rfl, rfl, rfl, rfl, trivial⟩ ?_
      refine nm_thn ?_
      refine ws_region rfl ?_
      refine wlo 0 1 rfl rfl rfl (wo_run rfl rfl (run_add rfl rfl rfl (by first | omega | (simp only [lens]; omega))) ?_)
      refine wlm 1 2 rfl rfl rfl rfl rfl rfl rfl ?_
      refine wl_end rfl ?_
      refine nm_lp ?_
      have hrc2 : ((replT (rplF ((fullW pi ⟨L, N, m, ⟨c, a⟩⟩).n + 1) (m + 1)) (4 * i + j) (fullW pi ⟨L, N, m, ⟨c, a⟩⟩).ar).map toA4).set i (a4s (ga ((replT (rplF ((fullW pi ⟨L, N, m, ⟨c, a⟩⟩).n + 1) (m + 1)) (4 * i + j) (fullW pi ⟨L, N, m, ⟨c, a⟩⟩).ar).map toA4) i) j (m + 1)) = ((replT (rplF ((fullW pi ⟨L, N, m, ⟨c, a⟩⟩).n + 1) (m + 1)) (4 * i + (j + 1)) (fullW pi ⟨L, N, m, ⟨c, a⟩⟩).ar).map toA4) := by (have e9 := ar_set (replT_tb hT1 (f := (rplF ((fullW pi ⟨L, N, m, ⟨c, a⟩⟩).n + 1) (m + 1))) (k := 4 * i + j)) (c := (i : Int)) (p := (j : Int)) (m + 1) ⟨by omega, by omega⟩ ⟨by omega, by omega⟩; simp only [Int.toNat_natCast] at e9; rw [e9, replT_set hT1 (by omega) (by omega) (by rw [← hrow (by omega)]; exact (rplF_eq hb39).symm)])
      rw [hrc2] at S8; clear hrc2
      intro ax_ hax_
      refine ⟨_, ?hq3m, ⟨j + 1, rfl, hax_.sub ⟨rfl, rfl, rfl, rfl, rfl, rfl, rfl, rfl, trivial⟩, S8.pick [0, 1, 2, 3] [_, _, _, _] (by decide) ⟨rfl, rfl, rfl, rfl, trivial⟩, ?hq3f0⟩⟩
      case hq3f0 => first | assumption | omega
      case hq3m => omega
     ·replace hb39 := of_decide_eq_false hb39
      refine ws_skip rfl ?_
      refine nm_blk ?_
      refine nm_sub [(0, _), (3, _), (9, _), (22, _), (23, _), (10, _), (32, _), (33, _)] ⟨rfl, rfl, rfl, rfl, rfl, rfl, rfl, rfl, trivial⟩ ?_
      refine nm_thn ?_
      refine ws_region rfl ?_
      refine wlo 0 1 rfl rfl rfl (wo_run rfl rfl (run_add rfl rfl rfl (by first | omega | (simp only [lens]; omega))) ?_)
      refine wlm 1 2 rfl rfl rfl rfl rfl rfl rfl ?_
      refine wl_end rfl ?_
      refine nm_lp ?_
      have hrc3 : ((replT (rplF ((fullW pi ⟨L, N, m, ⟨c, a⟩⟩).n + 1) (m + 1)) (4 * i + j) (fullW pi ⟨L, N, m, ⟨c, a⟩⟩).ar).map toA4) = ((replT (rplF ((fullW pi ⟨L, N, m, ⟨c, a⟩⟩).n + 1) (m + 1)) (4 * i + (j + 1)) (fullW pi ⟨L, N, m, ⟨c, a⟩⟩).ar).map toA4) := by rw [replT_same hT1 (by omega) (by omega) (by rw [← hrow (by omega)]; exact rplF_ne hb39)]
      rw [hrc3] at S7; clear hrc3
      intro ax_ hax_
      refine ⟨_, ?hq4m, ⟨j + 1, rfl, hax_.sub ⟨rfl, rfl, rfl, rfl, rfl, rfl, rfl, rfl, trivial⟩, S7.pick [0, 1, 2, 3] [_, _, _, _] (by decide) ⟨rfl, rfl, rfl, rfl, trivial⟩, ?hq4f0⟩⟩
      case hq4f0 => first | assumption | omega
      case hq4m => omega
    ·replace hb34 := of_decide_eq_false hb34
     refine ws_exit rfl rfl ?_
     refine nm_blk ?_
     refine nm_sub [(0, _), (3, _), (9, _), (22, _), (23, _)] ⟨rfl, rfl, rfl, rfl, rfl, trivial⟩ ?_
     refine nm_thn ?_
     refine ws_region rfl ?_
     refine wlo 0 1 rfl rfl rfl (wo_run rfl rfl (run_add rfl rfl rfl (by first | omega | (simp only [lens]; omega))) ?_)
     refine wlm 1 2 rfl rfl rfl rfl rfl rfl rfl ?_
     refine wl_end rfl ?_
     refine nm_lp ?_
     have hrc4 : ((replT (rplF ((fullW pi ⟨L, N, m, ⟨c, a⟩⟩).n + 1) (m + 1)) (4 * i + j) (fullW pi ⟨L, N, m, ⟨c, a⟩⟩).ar).map toA4) = ((replT (rplF ((fullW pi ⟨L, N, m, ⟨c, a⟩⟩).n + 1) (m + 1)) (4 * (i + 1)) (fullW pi ⟨L, N, m, ⟨c, a⟩⟩).ar).map toA4) := by rw [show 4 * i + j = 4 * (i + 1) by omega]
     rw [hrc4] at S7; clear hrc4
     intro ax_ hax_
     refine ⟨_, ?hq5m, ⟨i + 1, rfl, hax_.sub ⟨rfl, rfl, rfl, rfl, rfl, trivial⟩, S7.pick [0, 1, 2, 3] [_, _, _, _] (by decide) ⟨rfl, rfl, rfl, rfl, trivial⟩, ?hq5f0⟩⟩
     case hq5f0 => first | assumption | omega
     case hq5m => omega
  ·replace hb24 := of_decide_eq_false hb24
   refine ws_exit rfl rfl ?_
   refine nm_sub [(9, _)] ⟨rfl, trivial⟩ ?_
   refine nm_thn ?_
   refine ws_seqN Ring_n41 Ring_n42 rfl rfl rfl ?_
   refine ws_region rfl ?_
   refine wlm 0 1 rfl rfl rfl rfl rfl rfl rfl ?_
   refine wla 1 2 rfl rfl rfl rfl rfl rfl rfl ?_
   refine wl_end rfl ?_
   refine nm_sub [(8, _)] ⟨rfl, trivial⟩ ?_
   refine nm_thn ?_
   refine ws_ret hC [_] rfl rfl ⟨rfl, trivial⟩ ?_
   refine ⟨_, rfl, _, _, Hp.le_refl _, (S6.pick [0, 1, 2, 3] [_, _, _, _] (by decide) ⟨rfl, rfl, rfl, rfl, trivial⟩).bun, ?_⟩
   obtain rfl : i = n := by omega
   rw [hrn.1, hrn.2, hI2 hv]
   rw [replT_all hT1]
   exact ⟨rfl, rfl, rfl⟩
end Go.Proofs.Ytkgofmloleicgaa
namespace Go.Proofs.Ytkgofmloleicgaa
open Go.ChangeShapes Go.WideShapes Go.ChangeAt Go.RowKit
def crArc (x : Cr) (k : Nat) : Int := if k = 0 then x.a else if k = 1 then x.b else if k = 2 then x.c else x.d
theorem walk_sum {n : Nat} {pi : Sp → Sp} (hp : PiOk n pi) : ∀ (k : Nat) (w : Ws), OkW n w → (wk pi k w).n + negs (wk pi k w).inn = w.n + negs w.inn := by
 intro k
 induction k with
 | zero => intro w _; rfl
 | succ k ih =>
  intro w h
  rw [wk]
  split
  ·rfl
  ·rename_i hv
   rw [ih _ (h.step hp)]
   have := negs_step (pi := pi) h hv
   show w.n + 1 + _ = _
   omega
theorem rgs_sum {n : Nat} {pi : Sp → Sp} (hp : PiOk n pi) : ∀ m, m ≤ 2 * n → (rgs pi n m).n + negs (rgs pi n m).inn = 2 * (n : Int) := by
 intro m
 induction m with
 | zero =>
  intro _
  show (0 : Int) + negs (List.replicate n [-1, -1]) = _
  have : ∀ k : Nat, negs (List.replicate k [-1, -1]) = 2 * k := by
   intro k
   unfold negs
   rw [List.map_replicate, List.sum_replicate_nat]
   have : List.countP (fun x : Int => decide (x < 0)) [-1, -1] = 2 := by decide
   rw [this]; omega
  rw [this]; omega
 | succ m ih =>
  intro hm
  have h1 := (rgs_ok hp m (by omega)).1
  have h2 := ih (by omega)
  have hs : Rl n ⟨(m / 2 : Nat), (m % 2 : Nat)⟩ := ⟨by simp only; omega, by simp only; omega, by simp only; omega, by simp only; omega⟩
  show (rngS pi (rgs pi n m) _).n + negs (rngS pi (rgs pi n m) _).inn = _
  unfold rngS
  split
  ·exact h2
  ·rw [← h2]
   exact walk_sum hp _ _ ⟨h1.ar, h1.inn, hs⟩
theorem rgs_step {n : Nat} (pi : Sp → Sp) {c q : Nat} (hq : q < 2) : rngS pi ⟨(rgs pi n (2 * c + q)).ar, (rgs pi n (2 * c + q)).inn, (rgs pi n (2 * c + q)).n⟩ ⟨(c : Int), (q : Int)⟩ = rgs pi n (2 * c + (q + 1)) := by
 show _ = rngS pi (rgs pi n (2 * c + q)) ⟨((2 * c + q) / 2 : Nat), ((2 * c + q) % 2 : Nat)⟩
 rw [show (2 * c + q) / 2 = c by omega, show (2 * c + q) % 2 = q by omega]
theorem rgs_stay {n : Nat} (pi : Sp → Sp) {c q : Nat} (hq : q < 2) (h : 0 ≤ at2 (rgs pi n (2 * c + q)).inn (c : Int) (q : Int)) : rgs pi n (2 * c + q) = rgs pi n (2 * c + (q + 1)) := by
 rw [← rgs_step pi hq]
 unfold rngS
 rw [if_pos h]
/-- The first k places of corners. -/
def pmN (pl : List A4) : Nat → List (Sp × Int)
 | 0 => []
 | k + 1 => mp ⟨(k / 4 : Nat), a4g (ga pl (k / 4)) (k % 4)⟩ ((k % 4 : Nat) : Int) (pmN pl k)
theorem pmN_step (pl : List A4) {c j : Nat} (hj : j < 4) : mp (⟨(c : Int), ga [(ga pl c).a, (ga pl c).b, (ga pl c).c, (ga pl c).d] j⟩ : Sp) (j : Int) (pmN pl (4 * c + j)) = pmN pl (4 * c + (j + 1)) := by
 show _ = mp (⟨((4 * c + j) / 4 : Nat), a4g (ga pl ((4 * c + j) / 4)) ((4 * c + j) % 4)⟩ : Sp) (((4 * c + j) % 4 : Nat) : Int) (pmN pl (4 * c + j))
 rw [show (4 * c + j) / 4 = c by omega, show (4 * c + j) % 4 = j by omega]
 have : j = 0 ∨ j = 1 ∨ j = 2 ∨ j = 3 := by omega
 rcases this with rfl | rfl | rfl | rfl <;> rfl
/-- A crossing of the diagram. -/
def crosF (r : Rst) (c : Nat) : Cr := ⟨ga (ga r.ar c) ((0 + (at2 r.inn c 0).toNat) % 4), ga (ga r.ar c) ((1 + (at2 r.inn c 0).toNat) % 4), ga (ga r.ar c) ((2 + (at2 r.inn c 0).toNat) % 4), ga (ga r.ar c) ((3 + (at2 r.inn c 0).toNat) % 4), decide (at2 r.inn c 1 = (at2 r.inn c 0 + 3) % 4)⟩
def crsW (pi : Sp → Sp) (n k : Nat) : List Cr := (List.range k).map (crosF (rgs pi n (2 * n)))
theorem crsW_succ (pi : Sp → Sp) (n k : Nat) : crsW pi n (k + 1) = crsW pi n k ++ [crosF (rgs pi n (2 * n)) k] := by unfold crsW; rw [List.range_succ, List.map_append]; rfl
def dgW (pi : Sp → Sp) (n : Nat) (lp : Int) : Dg := ⟨crsW pi n n, lp⟩
theorem crArc_ga (l : List Int) {p : Nat} (h : p < 4) (b : Bool) : crArc (⟨(toA4 l).a, (toA4 l).b, (toA4 l).c, (toA4 l).d, b⟩ : Cr) p = ga l p := by
 have : p = 0 ∨ p = 1 ∨ p = 2 ∨ p = 3 := by omega
 rcases this with rfl | rfl | rfl | rfl <;> rfl
noncomputable def Arc_n0 : Code := Try.f40.body.getD .skip
noncomputable def Arc_n1 : Code := cL Arc_n0
noncomputable def Arc_n2 : Code := cR Arc_n0
noncomputable def Arc_n3 : Code := cL Arc_n2
noncomputable def Arc_n4 : Code := cR Arc_n2
set_option maxRecDepth 10000 in
theorem Arc_q {w : World} {M : Hp} {X : Fr} (x : Cr) (k : Nat) (hk : k < 4) (S : SH w M X []) : Cq Try.prog 40 [.agg [.int .i64 x.a, .int .i64 x.b, .int .i64 x.c, .int .i64 x.d, .bool x.plus].toArray, .int .i64 (k : Int)] w M X (fun u => u = .int .i64 (crArc x k)) := by
 unfold Cq
 refine calls_in (b := Arc_n0) Try.func40 rfl Try.ntmps40 rfl (fun C hC => ?_)
 refine ws_sub [(0, _), (1, _)] ⟨rfl, rfl, trivial⟩ ?_
 refine ws_seqN Arc_n1 Arc_n2 rfl rfl rfl ?_
 refine ws_region rfl ?_
 refine wlo 0 1 rfl rfl rfl (wo_box (l := [_, _, _, _, _]) rfl rfl rfl rfl rfl S ?_)
 intro gb1 w1 S1; clear S
 refine wla 1 2 rfl rfl rfl rfl rfl rfl rfl ?_
 refine wl_end rfl ?_
 refine nm_sub [(1, _), (2, _)] ⟨rfl, rfl, trivial⟩ ?_
 refine nm_thn ?_
 refine ws_seqN Arc_n3 Arc_n4 rfl rfl rfl ?_
 refine ws_region rfl ?_
 refine wlo 0 1 rfl rfl rfl (wo_run rfl rfl (run_fieldAddr rfl rfl Try.underlying56 rfl (ce3) (nf3)) ?_)
 refine wlo 1 2 rfl rfl rfl (wo_run rfl rfl (run_load1 rfl rfl Try.underlying3 rfl (S1.boxc (i := 0) rfl rfl)) ?_)
 refine wlo 2 3 rfl rfl rfl (wo_run rfl rfl (run_fieldAddr rfl rfl Try.underlying56 rfl (ce3) (nf3)) ?_)
 refine wlo 3 4 rfl rfl rfl (wo_run rfl rfl (run_load1 rfl rfl Try.underlying3 rfl (S1.boxc (i := 0) rfl rfl)) ?_)
 refine wlo 4 5 rfl rfl rfl (wo_run rfl rfl (run_fieldAddr rfl rfl Try.underlying56 rfl (ce3) (nf3)) ?_)
 refine wlo 5 6 rfl rfl rfl (wo_run rfl rfl (run_load1 rfl rfl Try.underlying3 rfl (S1.boxc (i := 0) rfl rfl)) ?_)
 refine wlo 6 7 rfl rfl rfl (wo_run rfl rfl (run_fieldAddr rfl rfl Try.underlying56 rfl (ce3) (nf3)) ?_)
 refine wlo 7 8 rfl rfl rfl (wo_run rfl rfl (run_load1 rfl rfl Try.underlying3 rfl (S1.boxc (i := 0) rfl rfl)) ?_)
 refine wlo 8 9 rfl rfl rfl (wo_run rfl rfl (run_buildA (l := [_, _, _, _]) (pl := [(0, 1), (1, 1), (2, 1), (3, 1)]) rfl rfl Try.underlying73 zr73 sz3 rfl rfl rfl) ?_)
 refine wlm 9 10 rfl rfl rfl rfl rfl rfl rfl ?_
 refine wlo 10 11 rfl rfl rfl (wo_run rfl rfl (run_index1 (e := k) rfl rfl rfl Try.underlying73 Try.underlying3 rfl sz3 (by first | rfl | omega) (by first | omega | (simp only [lens]; omega)) (nth_iv [x.a, x.b, x.c, x.d] k (by simp; first | omega | (simp only [lens]; omega)))) ?_)
 refine wla 11 12 rfl rfl rfl rfl rfl rfl rfl ?_
 refine wl_end rfl ?_
 refine nm_sub [(4, _)] ⟨rfl, trivial⟩ ?_
 refine nm_thn ?_
 refine ws_ret hC [_] rfl rfl ⟨rfl, trivial⟩ ?_
 exact ⟨_, rfl, (S1.pick [] [] (by decide) trivial), (by have e0 : k = 0 ∨ k = 1 ∨ k = 2 ∨ k = 3 := (by omega); rcases e0 with rfl | rfl | rfl | rfl <;> first | rfl | (exfalso; omega))⟩
noncomputable def Turned1_n0 : Code := Try.f39.body.getD .skip
noncomputable def Turned1_n1 : Code := cL Turned1_n0
noncomputable def Turned1_n2 : Code := cR Turned1_n0
noncomputable def Turned1_n3 : Code := cL Turned1_n2
noncomputable def Turned1_n4 : Code := cR Turned1_n2
set_option maxRecDepth 10000 in
theorem Turned1_q {w : World} {M : Hp} {X : Fr} (i : Nat) (x : Cr) {g0 : Nat} (by_ : Nat) {g1 : Nat} (hbx : BxM (M.un X.h) g0 56 [.int .i64 x.a, .int .i64 x.b, .int .i64 x.c, .int .i64 x.d, .bool x.plus]) (hby : BxM (M.un X.h) g1 3 [.int .i64 (by_ : Int)]) (hi : i < 4) (hb : by_ < 4) (S : SH w M X []) : Cq Try.prog 39 [.int .i64 (i : Int), .pointer (some ⟨g0, 0, none⟩), .pointer (some ⟨g1, 0, none⟩)] w M X (fun u => u = .int .i64 (crArc x ((i + by_) % 4))) := by
 unfold Cq
 refine calls_in (b := Turned1_n0) Try.func39 rfl Try.ntmps39 rfl (fun C hC => ?_)
 refine ws_sub [(0, _), (1, _), (2, _)] ⟨rfl, rfl, rfl, trivial⟩ ?_
 refine ws_seqN Turned1_n1 Turned1_n2 rfl rfl rfl ?_
 refine ws_region rfl ?_
 refine wla 0 1 rfl rfl rfl rfl rfl rfl rfl ?_
 refine wl_end rfl ?_
 refine nm_sub [(0, _), (1, _), (2, _)] ⟨rfl, rfl, rfl, trivial⟩ ?_
 refine nm_thn ?_
 refine ws_seqN Turned1_n3 Turned1_n4 rfl rfl rfl ?_
 refine ws_region rfl ?_
 refine wlo 0 1 rfl rfl rfl (wo_run rfl rfl (run_loadN (us := [_, _, _, _, _]) rfl rfl Try.underlying56 rfl sz56 (hbx.cells S.um ⟨rfl, rfl, rfl, rfl, rfl, trivial⟩)) ?_)
 refine wlm 1 2 rfl rfl rfl rfl rfl rfl rfl ?_
 refine wlo 2 3 rfl rfl rfl (wo_run rfl rfl (run_load1 rfl rfl Try.underlying3 rfl (hby.cell S.um rfl)) ?_)
 refine wlo 3 4 rfl rfl rfl (wo_run rfl rfl (run_add rfl rfl rfl (by first | omega | (simp only [lens]; omega))) ?_)
 refine wlo 4 5 rfl rfl rfl (wo_run rfl rfl (run_rem rfl rfl rfl (by first | omega | (simp only [lens]; omega))) ?_)
 refine wlo 5 6 rfl rfl rfl (wo_cq rfl rfl rfl rfl rfl rfl rfl cf40 S (Arc_q x ((((i : Int) + (by_ : Int)) % 4).toNat) (by omega) S.lend) ?_)
 rintro _ w1 S1 rfl; clear S
 refine wla 6 7 rfl rfl rfl rfl rfl rfl rfl ?_
 refine wl_end rfl ?_
 refine nm_sub [(4, _)] ⟨rfl, trivial⟩ ?_
 refine nm_thn ?_
 refine ws_ret hC [_] rfl rfl ⟨rfl, trivial⟩ ?_
 exact ⟨_, rfl, (S1.pick [] [] (by decide) trivial), rfl⟩
noncomputable def Turned_n0 : Code := Try.f35.body.getD .skip
noncomputable def Turned_n1 : Code := cL Turned_n0
noncomputable def Turned_n2 : Code := cR Turned_n0
noncomputable def Turned_n3 : Code := cL Turned_n2
noncomputable def Turned_n4 : Code := cR Turned_n2
noncomputable def Turned_n5 : Code := cL Turned_n4
noncomputable def Turned_n6 : Code := cR Turned_n4
set_option maxRecDepth 10000 in
theorem Turned_q {w : World} {M : Hp} {X : Fr} (x : Cr) (k : Nat) (hk : k < 4) (S : SH w M X []) : Cq Try.prog 35 [.agg [.int .i64 x.a, .int .i64 x.b, .int .i64 x.c, .int .i64 x.d, .bool x.plus].toArray, .int .i64 (k : Int)] w M X (fun u => u = .agg [.int .i64 (crArc x ((0 + k) % 4)), .int .i64 (crArc x ((1 + k) % 4)), .int .i64 (crArc x ((2 + k) % 4)), .int .i64 (crArc x ((3 + k) % 4)), .bool x.plus].toArray) := by
 unfold Cq
 refine calls_in (b := Turned_n0) Try.func35 rfl Try.ntmps35 rfl (fun C hC => ?_)
 refine ws_sub [(0, _), (1, _)] ⟨rfl, rfl, trivial⟩ ?_
 refine ws_seqN Turned_n1 Turned_n2 rfl rfl rfl ?_
 refine ws_region rfl ?_
 refine wlo 0 1 rfl rfl rfl (wo_box (l := [_, _, _, _, _]) rfl rfl rfl rfl rfl S ?_)
 intro gb1 w1 S1; clear S
 refine wlo 1 2 rfl rfl rfl (wo_box (l := [_]) rfl rfl rfl rfl rfl S1 ?_)
 intro gb2 w2 S2; clear S1
 refine wlo 2 3 rfl rfl rfl (wo_alloc (l := [_, _, _, _, _]) rfl rfl rfl zr56 rfl S2 ?_)
 intro gb3 w3 S3; clear S2
 refine wl_end rfl ?_
 refine nm_sub [(2, _), (3, _), (4, _)] ⟨rfl, rfl, rfl, trivial⟩ ?_
 refine nm_thn ?_
 refine ws_seqN Turned_n3 Turned_n4 rfl rfl rfl ?_
 refine ws_region rfl ?_
 refine wlo 0 1 rfl rfl rfl (wo_run rfl rfl (run_makeFunc (vs := [_, _]) rfl rfl rfl rfl) ?_)
 refine wla 1 2 rfl rfl rfl rfl rfl rfl rfl ?_
 refine wl_end rfl ?_
 refine nm_sub [(2, _), (4, _), (5, _)] ⟨rfl, rfl, rfl, trivial⟩ ?_
 refine nm_thn ?_
 refine ws_seqN Turned_n5 Turned_n6 rfl rfl rfl ?_
 refine ws_draw rfl (by kernel_rfl) S3 12 rfl ?_
 clear S3
 refine wa_takeP (i := 0) (d := 7) 11 rfl (by kernel_rfl) (by kernel_rfl) (by kernel_rfl) rfl rfl rfl (fun w4 => run_move rfl rfl) ?_
 refine wa_take (i := 1) (d := 8) 10 rfl (by kernel_rfl) (by kernel_rfl) (by kernel_rfl) rfl rfl rfl (fun M2 N2 w5 hle2 S5 => yield_cqF rfl rfl rfl rfl rfl cf39 S5 (Turned1_q 0 x k (SH.boxMs (i := 2) S5 rfl) (SH.boxMs (i := 1) S5 rfl) (by omega) (by omega) S5.lend)) ?_
 refine wa_takeP (i := 2) (d := 9) 9 rfl (by kernel_rfl) (by kernel_rfl) (by kernel_rfl) rfl rfl rfl (fun w6 => run_move rfl rfl) ?_
 refine wa_take (i := 3) (d := 10) 8 rfl (by kernel_rfl) (by kernel_rfl) (by kernel_rfl) rfl rfl rfl (fun M4 N4 w7 hle4 S7 => yield_cqF rfl rfl rfl rfl rfl cf39 S7 (Turned1_q 1 x k (SH.boxMs (i := 2) S7 rfl) (SH.boxMs (i := 1) S7 rfl) (by omega) (by omega) S7.lend)) ?_
 refine wa_takeP (i := 4) (d := 11) 7 rfl (by kernel_rfl) (by kernel_rfl) (by kernel_rfl) rfl rfl rfl (fun w8 => run_move rfl rfl) ?_
 refine wa_take (i := 5) (d := 12) 6 rfl (by kernel_rfl) (by kernel_rfl) (by kernel_rfl) rfl rfl rfl (fun M6 N6 w9 hle6 S9 => yield_cqF rfl rfl rfl rfl rfl cf39 S9 (Turned1_q 2 x k (SH.boxMs (i := 2) S9 rfl) (SH.boxMs (i := 1) S9 rfl) (by omega) (by omega) S9.lend)) ?_
 refine wa_takeP (i := 6) (d := 13) 5 rfl (by kernel_rfl) (by kernel_rfl) (by kernel_rfl) rfl rfl rfl (fun w10 => run_move rfl rfl) ?_
 refine wa_take (i := 7) (d := 14) 4 rfl (by kernel_rfl) (by kernel_rfl) (by kernel_rfl) rfl rfl rfl (fun M8 N8 w11 hle8 S11 => yield_cqF rfl rfl rfl rfl rfl cf39 S11 (Turned1_q 3 x k (SH.boxMs (i := 2) S11 rfl) (SH.boxMs (i := 1) S11 rfl) (by omega) (by omega) S11.lend)) ?_
 refine wa_takeP (i := 8) (d := 15) 3 rfl (by kernel_rfl) (by kernel_rfl) (by kernel_rfl) rfl rfl rfl (fun w12 => run_fieldAddr rfl rfl Try.underlying56 rfl (ce4) (nf4)) ?_
 refine wa_take (i := 9) (d := 16) 2 rfl (by kernel_rfl) (by kernel_rfl) (by kernel_rfl) rfl rfl rfl (fun M10 N10 w13 hle10 S13 => .inl (run_load1 rfl rfl Try.underlying4 rfl (S13.suf.boxc (i := 2) rfl rfl))) ?_
 refine wa_take (i := 10) (d := 17) 1 rfl (by kernel_rfl) (by kernel_rfl) (by kernel_rfl) rfl rfl rfl (fun M11 N11 w14 hle11 S14 => .inl (run_build (l := [_, _, _, _, _]) rfl rfl st56 rfl rfl)) ?_
 refine wa_only (i := 11) 0 rfl (by kernel_rfl) rfl rfl (fun w16 S16 => ?_)
 refine (wo_storeB (i := 0) (us := [_, _, _, _, _]) (l' := [_, _, _, _, _]) (H' := [_, _, _]) rfl rfl S16 rfl rfl rfl rfl sz56 rfl rfl rfl rfl ?_)
 intro w17 S17; clear S16
 refine LeftW.turn (by kernel_rfl) S17 ?_; clear S17
 change WA _ _ _ _ _ _ _ _ _ _ _ _ [_, _, _]
 refine wa_end (by kernel_rfl) (fun w18 S18 => ?_)
 refine nm_sub [(4, _)] ⟨rfl, trivial⟩ ?_
 refine nm_thn ?_
 refine ws_ret hC [_] rfl rfl ⟨⟨_, rfl, loadVarN (us := [_, _, _, _, _]) Try.underlying56 rfl sz56 (S18.boxcs (i := 0) rfl ⟨rfl, rfl, rfl, rfl, rfl, trivial⟩)⟩, trivial⟩ ?_
 exact ⟨_, rfl, (S18.pick [] [] (by decide) trivial), rfl⟩
theorem in_next {n c : Nat} (h : c < n) : ((List.replicate c [-1, -1] ++ List.replicate (n - c) [0, 0]).map toA2).set c (⟨(-1), (-1)⟩ : A2) = (List.replicate (c + 1) [-1, -1] ++ List.replicate (n - (c + 1)) [0, 0]).map toA2 := by
 rw [show n - c = (n - (c + 1)) + 1 by omega, List.replicate_succ, List.map_append, List.map_cons, List.set_append_right _ _ (by simp), List.length_map, List.length_replicate, Nat.sub_self, List.set_cons_zero, List.replicate_succ', List.map_append, List.map_append]
 simp [toA2, ga]
noncomputable def Diagram_n0 : Code := Try.f29.body.getD .skip
noncomputable def Diagram_n1 : Code := cL Diagram_n0
noncomputable def Diagram_n2 : Code := cR Diagram_n0
noncomputable def Diagram_n3 : Code := cL Diagram_n2
noncomputable def Diagram_n4 : Code := cR Diagram_n2
noncomputable def Diagram_n5 : Code := cL Diagram_n4
noncomputable def Diagram_n6 : Code := cR Diagram_n4
noncomputable def Diagram_n7 : Code := cL Diagram_n5
noncomputable def Diagram_n8 : Code := cR Diagram_n5
noncomputable def Diagram_n9 : Code := cL Diagram_n8
noncomputable def Diagram_n10 : Code := cL Diagram_n9
noncomputable def Diagram_n11 : Code := cL Diagram_n10
noncomputable def Diagram_n12 : Code := cR Diagram_n10
noncomputable def Diagram_n13 : Code := cL Diagram_n12
noncomputable def Diagram_n14 : Code := cR Diagram_n12
noncomputable def Diagram_n15 : Code := cL Diagram_n13
noncomputable def Diagram_n16 : Code := cR Diagram_n13
noncomputable def Diagram_n17 : Code := cL Diagram_n14
noncomputable def Diagram_n18 : Code := cR Diagram_n14
noncomputable def Diagram_n19 : Code := cL Diagram_n17
noncomputable def Diagram_n20 : Code := cL Diagram_n19
noncomputable def Diagram_n21 : Code := cR Diagram_n19
noncomputable def Diagram_n22 : Code := cL Diagram_n21
noncomputable def Diagram_n23 : Code := cR Diagram_n21
noncomputable def Diagram_n24 : Code := cL Diagram_n23
noncomputable def Diagram_n25 : Code := cR Diagram_n23
noncomputable def Diagram_n26 : Code := cL Diagram_n25
noncomputable def Diagram_n27 : Code := cL Diagram_n26
noncomputable def Diagram_n28 : Code := cL Diagram_n27
noncomputable def Diagram_n29 : Code := cR Diagram_n27
noncomputable def Diagram_n30 : Code := cL Diagram_n29
noncomputable def Diagram_n31 : Code := cR Diagram_n29
noncomputable def Diagram_n32 : Code := cL Diagram_n30
noncomputable def Diagram_n33 : Code := cR Diagram_n30
noncomputable def Diagram_n34 : Code := cL Diagram_n31
noncomputable def Diagram_n35 : Code := cR Diagram_n31
noncomputable def Diagram_n36 : Code := cL Diagram_n34
noncomputable def Diagram_n37 : Code := cL Diagram_n36
noncomputable def Diagram_n38 : Code := cR Diagram_n36
noncomputable def Diagram_n39 : Code := cL Diagram_n6
noncomputable def Diagram_n40 : Code := cR Diagram_n6
noncomputable def Diagram_n41 : Code := cL Diagram_n40
noncomputable def Diagram_n42 : Code := cR Diagram_n40
noncomputable def Diagram_n43 : Code := cL Diagram_n41
noncomputable def Diagram_n44 : Code := cR Diagram_n41
noncomputable def Diagram_n45 : Code := cL Diagram_n44
noncomputable def Diagram_n46 : Code := cL Diagram_n45
noncomputable def Diagram_n47 : Code := cL Diagram_n46
noncomputable def Diagram_n48 : Code := cR Diagram_n46
noncomputable def Diagram_n49 : Code := cL Diagram_n48
noncomputable def Diagram_n50 : Code := cR Diagram_n48
noncomputable def Diagram_n51 : Code := cL Diagram_n49
noncomputable def Diagram_n52 : Code := cR Diagram_n49
noncomputable def Diagram_n53 : Code := cL Diagram_n50
noncomputable def Diagram_n54 : Code := cR Diagram_n50
noncomputable def Diagram_n55 : Code := cL Diagram_n53
noncomputable def Diagram_n56 : Code := cL Diagram_n55
noncomputable def Diagram_n57 : Code := cR Diagram_n55
noncomputable def Diagram_n58 : Code := cL Diagram_n57
noncomputable def Diagram_n59 : Code := cR Diagram_n57
noncomputable def Diagram_n60 : Code := cL Diagram_n59
noncomputable def Diagram_n61 : Code := cL Diagram_n60
noncomputable def Diagram_n62 : Code := cL Diagram_n61
noncomputable def Diagram_n63 : Code := cR Diagram_n61
noncomputable def Diagram_n64 : Code := cL Diagram_n63
noncomputable def Diagram_n65 : Code := cR Diagram_n63
noncomputable def Diagram_n66 : Code := cL Diagram_n64
noncomputable def Diagram_n67 : Code := cR Diagram_n64
noncomputable def Diagram_n68 : Code := cL Diagram_n65
noncomputable def Diagram_n69 : Code := cR Diagram_n65
noncomputable def Diagram_n70 : Code := cL Diagram_n68
noncomputable def Diagram_n71 : Code := cL Diagram_n70
noncomputable def Diagram_n72 : Code := cR Diagram_n70
noncomputable def Diagram_n73 : Code := cL Diagram_n72
noncomputable def Diagram_n74 : Code := cR Diagram_n72
noncomputable def Diagram_n75 : Code := cL Diagram_n74
noncomputable def Diagram_n76 : Code := cR Diagram_n74
noncomputable def Diagram_n77 : Code := cL Diagram_n42
noncomputable def Diagram_n78 : Code := cR Diagram_n42
noncomputable def Diagram_n79 : Code := cL Diagram_n78
noncomputable def Diagram_n80 : Code := cR Diagram_n78
noncomputable def Diagram_n81 : Code := cL Diagram_n79
noncomputable def Diagram_n82 : Code := cR Diagram_n79
noncomputable def Diagram_n83 : Code := cL Diagram_n82
noncomputable def Diagram_n84 : Code := cL Diagram_n83
noncomputable def Diagram_n85 : Code := cL Diagram_n84
noncomputable def Diagram_n86 : Code := cR Diagram_n84
noncomputable def Diagram_n87 : Code := cL Diagram_n86
noncomputable def Diagram_n88 : Code := cR Diagram_n86
noncomputable def Diagram_n89 : Code := cL Diagram_n87
noncomputable def Diagram_n90 : Code := cR Diagram_n87
noncomputable def Diagram_n91 : Code := cL Diagram_n88
noncomputable def Diagram_n92 : Code := cR Diagram_n88
noncomputable def Diagram_n93 : Code := cL Diagram_n91
noncomputable def Diagram_n94 : Code := cL Diagram_n93
noncomputable def Diagram_n95 : Code := cR Diagram_n93
noncomputable def Diagram_n96 : Code := cL Diagram_n95
noncomputable def Diagram_n97 : Code := cR Diagram_n95
noncomputable def Diagram_n98 : Code := cL Diagram_n97
noncomputable def Diagram_n99 : Code := cR Diagram_n97
noncomputable def Diagram_n100 : Code := cL Diagram_n99
noncomputable def Diagram_n101 : Code := cR Diagram_n99
noncomputable def Diagram_n102 : Code := cL Diagram_n101
noncomputable def Diagram_n103 : Code := cR Diagram_n101
noncomputable def Diagram_n104 : Code := cL Diagram_n80
noncomputable def Diagram_n105 : Code := cR Diagram_n80
set_option maxHeartbeats 2000000 in
set_option maxRecDepth 10000 in
theorem Diagram_t {w : World} {M : Hp} {X : Fr} {n : Nat} {pi : Sp → Sp} {gt gti : Nat} {E : Nat → En} {plA : Option Addr} {plc : Nat} {pl : List A4} {ti : List (Sp × Sp)} {lp : Int} (hbx : BxM M gt 72 (en4 E [.slice plA pl.length plc, .map (some gti), .int .i64 lp])) (hpl : RdA cdA4 M plA plc pl) (hti : MpOk (fun x => Value.agg (cdCo.f x).toArray) (fun x => Value.agg (cdCo.f x).toArray) gti ti M) (hp : PiOk n pi) (hways : Ways n pl ti (pmN pl (4 * n)) pi) (hn : n ≤ 16) (S : SH w M X []) : Ct Try.prog 29 [.pointer (some ⟨gt, 0, none⟩)] w M X (DgO (dgW pi n lp)) := by
 unfold Ct
 have hpll := hways.1
 refine calls_in (b := Diagram_n0) Try.func29 rfl Try.ntmps29 rfl (fun C hC => ?_)
 refine ws_sub [(0, _)] ⟨rfl, trivial⟩ ?_
 refine ws_seqN Diagram_n1 Diagram_n2 rfl rfl rfl ?_
 refine ws_region rfl ?_
 refine wlo 0 1 rfl rfl rfl (wo_alloc (l := [_, _]) rfl rfl rfl zr41 rfl S ?_)
 intro gb1 w1 S1; clear S
 refine wl_end rfl ?_
 refine nm_thn ?_
 refine ws_seqN Diagram_n3 Diagram_n4 rfl rfl rfl ?_
 refine ws_cut (fun ax_ wx_ => ∃ (var : Value) (vinn : Value) (gwb : Nat) (gpm : Nat) (M1 : Hp), M.le M1 ∧ Env 159 [(0, .pointer (some ⟨gt, 0, none⟩)), (2, .pointer (some ⟨gb1, 0, none⟩)), (3, .pointer (some ⟨gwb, 0, none⟩))] ax_ ∧ SH wx_ M1 X [Rs.box gwb 80 [.pointer (some ⟨gt, 0, none⟩), .map (some gpm), var, vinn], Rs.mp (fun x => Value.agg (cdCo.f x).toArray) (Value.int .i64) gpm ([]), Rs.row cdA4 var (List.replicate pl.length cdA4.z), Rs.row cdA2 vinn (List.replicate pl.length cdA2.z), Rs.box gb1 41 [.slice none 0 0, .int .i64 0]]) ?_ ?_
 ·refine ws_draw rfl (by kernel_rfl) S1 17 rfl ?_
  clear S1
  refine wa_takeP (i := 0) (d := 15) 16 rfl (by kernel_rfl) (by kernel_rfl) (by kernel_rfl) rfl rfl rfl (fun w3 => run_move rfl rfl) ?_
  refine wa_takeP (i := 2) (d := 17) 15 rfl (by kernel_rfl) (by kernel_rfl) (by kernel_rfl) rfl rfl rfl (fun w5 => run_move rfl rfl) ?_
  refine wa_takeP (i := 3) (d := 18) 14 rfl (by kernel_rfl) (by kernel_rfl) (by kernel_rfl) rfl rfl rfl (fun w7 => run_nilCheck rfl rfl) ?_
  refine wa_takeP (i := 4) (d := 19) 13 rfl (by kernel_rfl) (by kernel_rfl) (by kernel_rfl) rfl rfl rfl (fun w9 => run_fieldAddr rfl rfl Try.underlying72 rfl (ce70) (nf70)) ?_
  refine wa_take (i := 5) (d := 20) 12 rfl (by kernel_rfl) (by kernel_rfl) (by kernel_rfl) rfl rfl rfl (fun M10 N9 w11 hle10 S11 => .inl (run_load1 rfl rfl Try.underlying70 rfl ((hbx.mono hle10).cell S11.m rfl))) ?_
  refine wa_take (i := 6) (d := 21) 11 rfl (by kernel_rfl) (by kernel_rfl) (by kernel_rfl) rfl rfl rfl (fun M12 N11 w13 hle12 S13 => .inl (run_len rfl rfl rfl rfl rfl rfl Try.underlying70)) ?_
  refine wa_takeP (i := 8) (d := 23) 10 rfl (by kernel_rfl) (by kernel_rfl) (by kernel_rfl) rfl rfl rfl (fun w16 => run_move rfl rfl) ?_
  refine wa_takeP (i := 9) (d := 24) 9 rfl (by kernel_rfl) (by kernel_rfl) (by kernel_rfl) rfl rfl rfl (fun w19 => run_nilCheck rfl rfl) ?_
  refine wa_takeP (i := 10) (d := 25) 8 rfl (by kernel_rfl) (by kernel_rfl) (by kernel_rfl) rfl rfl rfl (fun w22 => run_fieldAddr rfl rfl Try.underlying72 rfl (ce70) (nf70)) ?_
  refine wa_take (i := 11) (d := 26) 7 rfl (by kernel_rfl) (by kernel_rfl) (by kernel_rfl) rfl rfl rfl (fun M24 N23 w25 hle24 S25 => .inl (run_load1 rfl rfl Try.underlying70 rfl ((hbx.mono hle24).cell S25.m rfl))) ?_
  refine wa_take (i := 12) (d := 27) 6 rfl (by kernel_rfl) (by kernel_rfl) (by kernel_rfl) rfl rfl rfl (fun M27 N26 w28 hle27 S28 => .inl (run_len rfl rfl rfl rfl rfl rfl Try.underlying70)) ?_
  refine wa_three (i := 1) (j := 7) (m := 13) 5 rfl rfl rfl (by kernel_rfl) rfl rfl rfl rfl rfl rfl (fun w32 S32 => ?_) (fun w32 S32 => ?_) (fun w32 S32 => ?_)
  ·refine (wo_makeMap Sp Int (fun x => Value.agg (cdCo.f x).toArray) (Value.int .i64) rfl rfl rfl S32 ?_)
   intro gm1 w33 S33; clear S32
   refine LeftW.grow [_] (Hp.le_refl _) S33 ?_; clear S33
   change WA _ _ _ _ _ _ _ _ _ _ _ _ [_, _]
   refine wa_two (i := 7) (j := 13) 4 rfl rfl (by kernel_rfl) rfl rfl rfl rfl (fun w36 S36 => ?_) (fun w36 S36 => ?_)
   ·refine (wo_make (C := cdA4) pl.length rfl rfl rfl rfl rfl sl70 (by first | rfl | omega) (by show _ * 32 ≤ _; first | omega | (simp only [lens]; omega)) S36 ?_)
    intro vr1 w37 S37; clear S36
    refine LeftW.grow [_, _] (Hp.le_refl _) S37 ?_; clear S37
    change WA _ _ _ _ _ _ _ _ _ _ _ _ [_, _, _]
    refine wa_only (i := 13) 3 rfl (by kernel_rfl) rfl rfl (fun w39 S39 => ?_)
    refine (wo_make (C := cdA2) pl.length rfl rfl rfl rfl rfl sl78 (by first | rfl | omega) (by show _ * 16 ≤ _; first | omega | (simp only [lens]; omega)) S39 ?_)
    intro vr2 w40 S40; clear S39
    refine LeftW.grow [_, _, _] (Hp.le_refl _) S40 ?_; clear S40
    change WA _ _ _ _ _ _ _ _ _ _ _ _ [_, _, _, _]
    refine wa_base ?_
    refine wa_take (i := 14) (d := 29) 2 rfl (by kernel_rfl) (by kernel_rfl) (by kernel_rfl) rfl rfl rfl (fun M34 N33 w41 hle34 S41 => .inl (run_build (l := [.pointer (some ⟨gt, 0, none⟩), .map (some gm1), vr1, vr2]) rfl rfl st80 rfl (by obtain ⟨_, _, e9, _⟩ := S41.suf.sl (i := 1) rfl; subst e9; obtain ⟨_, _, e9, _⟩ := S41.suf.sl (i := 0) rfl; subst e9; rfl))) ?_
    refine wa_only (i := 15) 1 rfl (by kernel_rfl) rfl rfl (fun w43 S43 => ?_)
    refine (wo_box (l := [_, _, _, _]) rfl rfl rfl rfl rfl S43 ?_)
    intro gb2 w44 S44; clear S43
    refine LeftW.grow [_] (Hp.le_refl _) S44 ?_; clear S44
    change WA _ _ _ _ _ _ _ _ _ _ _ _ [_, _, _, _, _]
    refine wa_takeP (i := 16) (d := 3) 0 rfl (by kernel_rfl) (by kernel_rfl) (by kernel_rfl) rfl rfl rfl (fun w45 => run_assign rfl rfl) ?_
    refine wa_end (by kernel_rfl) (fun w46 S46 => ?_)
    refine nm_lp ?_
    intro ax_ hax_
    refine ⟨_, _, _, _, _, (Hp.le_refl _), hax_.sub ⟨rfl, rfl, rfl, trivial⟩, S46.pick [0, 3, 2, 1, 4] [_, _, _, _, _] (by decide) ⟨rfl, rfl, rfl, rfl, rfl, trivial⟩⟩
   ·refine (wo_make (C := cdA2) pl.length rfl rfl rfl rfl rfl sl78 (by first | rfl | omega) (by show _ * 16 ≤ _; first | omega | (simp only [lens]; omega)) S36 ?_)
    intro vr3 w47 S47; clear S36
    refine LeftW.grow [_, _] (Hp.le_refl _) S47 ?_; clear S47
    change WA _ _ _ _ _ _ _ _ _ _ _ _ [_, _, _]
    refine wa_only (i := 7) 3 rfl (by kernel_rfl) rfl rfl (fun w49 S49 => ?_)
    refine (wo_make (C := cdA4) pl.length rfl rfl rfl rfl rfl sl70 (by first | rfl | omega) (by show _ * 32 ≤ _; first | omega | (simp only [lens]; omega)) S49 ?_)
    intro vr4 w50 S50; clear S49
    refine LeftW.grow [_, _, _] (Hp.le_refl _) S50 ?_; clear S50
    change WA _ _ _ _ _ _ _ _ _ _ _ _ [_, _, _, _]
    refine wa_base ?_
    refine wa_take (i := 14) (d := 29) 2 rfl (by kernel_rfl) (by kernel_rfl) (by kernel_rfl) rfl rfl rfl (fun M38 N37 w51 hle38 S51 => .inl (run_build (l := [.pointer (some ⟨gt, 0, none⟩), .map (some gm1), vr4, vr3]) rfl rfl st80 rfl (by obtain ⟨_, _, e9, _⟩ := S51.suf.sl (i := 1) rfl; subst e9; obtain ⟨_, _, e9, _⟩ := S51.suf.sl (i := 0) rfl; subst e9; rfl))) ?_
    refine wa_only (i := 15) 1 rfl (by kernel_rfl) rfl rfl (fun w53 S53 => ?_)
    refine (wo_box (l := [_, _, _, _]) rfl rfl rfl rfl rfl S53 ?_)
    intro gb3 w54 S54; clear S53
    refine LeftW.grow [_] (Hp.le_refl _) S54 ?_; clear S54
    change WA _ _ _ _ _ _ _ _ _ _ _ _ [_, _, _, _, _]
    refine wa_takeP (i := 16) (d := 3) 0 rfl (by kernel_rfl) (by kernel_rfl) (by kernel_rfl) rfl rfl rfl (fun w55 => run_assign rfl rfl) ?_
    refine wa_end (by kernel_rfl) (fun w56 S56 => ?_)
    refine nm_lp ?_
    intro ax_ hax_
    refine ⟨_, _, _, _, _, (Hp.le_refl _), hax_.sub ⟨rfl, rfl, rfl, trivial⟩, S56.pick [0, 3, 1, 2, 4] [_, _, _, _, _] (by decide) ⟨rfl, rfl, rfl, rfl, rfl, trivial⟩⟩
  ·refine (wo_make (C := cdA4) pl.length rfl rfl rfl rfl rfl sl70 (by first | rfl | omega) (by show _ * 32 ≤ _; first | omega | (simp only [lens]; omega)) S32 ?_)
   intro vr5 w57 S57; clear S32
   refine LeftW.grow [_] (Hp.le_refl _) S57 ?_; clear S57
   change WA _ _ _ _ _ _ _ _ _ _ _ _ [_, _]
   refine wa_two (i := 1) (j := 13) 4 rfl rfl (by kernel_rfl) rfl rfl rfl rfl (fun w60 S60 => ?_) (fun w60 S60 => ?_)
   ·refine (wo_makeMap Sp Int (fun x => Value.agg (cdCo.f x).toArray) (Value.int .i64) rfl rfl rfl S60 ?_)
    intro gm2 w61 S61; clear S60
    refine LeftW.grow [_, _] (Hp.le_refl _) S61 ?_; clear S61
    change WA _ _ _ _ _ _ _ _ _ _ _ _ [_, _, _]
    refine wa_only (i := 13) 3 rfl (by kernel_rfl) rfl rfl (fun w63 S63 => ?_)
    refine (wo_make (C := cdA2) pl.length rfl rfl rfl rfl rfl sl78 (by first | rfl | omega) (by show _ * 16 ≤ _; first | omega | (simp only [lens]; omega)) S63 ?_)
    intro vr6 w64 S64; clear S63
    refine LeftW.grow [_, _, _] (Hp.le_refl _) S64 ?_; clear S64
    change WA _ _ _ _ _ _ _ _ _ _ _ _ [_, _, _, _]
    refine wa_base ?_
    refine wa_take (i := 14) (d := 29) 2 rfl (by kernel_rfl) (by kernel_rfl) (by kernel_rfl) rfl rfl rfl (fun M44 N43 w65 hle44 S65 => .inl (run_build (l := [.pointer (some ⟨gt, 0, none⟩), .map (some gm2), vr5, vr6]) rfl rfl st80 rfl (by obtain ⟨_, _, e9, _⟩ := S65.suf.sl (i := 2) rfl; subst e9; obtain ⟨_, _, e9, _⟩ := S65.suf.sl (i := 0) rfl; subst e9; rfl))) ?_
    refine wa_only (i := 15) 1 rfl (by kernel_rfl) rfl rfl (fun w67 S67 => ?_)
    refine (wo_box (l := [_, _, _, _]) rfl rfl rfl rfl rfl S67 ?_)
    intro gb4 w68 S68; clear S67
    refine LeftW.grow [_] (Hp.le_refl _) S68 ?_; clear S68
    change WA _ _ _ _ _ _ _ _ _ _ _ _ [_, _, _, _, _]
    refine wa_takeP (i := 16) (d := 3) 0 rfl (by kernel_rfl) (by kernel_rfl) (by kernel_rfl) rfl rfl rfl (fun w69 => run_assign rfl rfl) ?_
    refine wa_end (by kernel_rfl) (fun w70 S70 => ?_)
    refine nm_lp ?_
    intro ax_ hax_
    refine ⟨_, _, _, _, _, (Hp.le_refl _), hax_.sub ⟨rfl, rfl, rfl, trivial⟩, S70.pick [0, 2, 3, 1, 4] [_, _, _, _, _] (by decide) ⟨rfl, rfl, rfl, rfl, rfl, trivial⟩⟩
   ·refine (wo_make (C := cdA2) pl.length rfl rfl rfl rfl rfl sl78 (by first | rfl | omega) (by show _ * 16 ≤ _; first | omega | (simp only [lens]; omega)) S60 ?_)
    intro vr7 w71 S71; clear S60
    refine LeftW.grow [_, _] (Hp.le_refl _) S71 ?_; clear S71
    change WA _ _ _ _ _ _ _ _ _ _ _ _ [_, _, _]
    refine wa_only (i := 1) 3 rfl (by kernel_rfl) rfl rfl (fun w73 S73 => ?_)
    refine (wo_makeMap Sp Int (fun x => Value.agg (cdCo.f x).toArray) (Value.int .i64) rfl rfl rfl S73 ?_)
    intro gm3 w74 S74; clear S73
    refine LeftW.grow [_, _, _] (Hp.le_refl _) S74 ?_; clear S74
    change WA _ _ _ _ _ _ _ _ _ _ _ _ [_, _, _, _]
    refine wa_base ?_
    refine wa_take (i := 14) (d := 29) 2 rfl (by kernel_rfl) (by kernel_rfl) (by kernel_rfl) rfl rfl rfl (fun M48 N47 w75 hle48 S75 => .inl (run_build (l := [.pointer (some ⟨gt, 0, none⟩), .map (some gm3), vr5, vr7]) rfl rfl st80 rfl (by obtain ⟨_, _, e9, _⟩ := S75.suf.sl (i := 2) rfl; subst e9; obtain ⟨_, _, e9, _⟩ := S75.suf.sl (i := 1) rfl; subst e9; rfl))) ?_
    refine wa_only (i := 15) 1 rfl (by kernel_rfl) rfl rfl (fun w77 S77 => ?_)
    refine (wo_box (l := [_, _, _, _]) rfl rfl rfl rfl rfl S77 ?_)
    intro gb5 w78 S78; clear S77
    refine LeftW.grow [_] (Hp.le_refl _) S78 ?_; clear S78
    change WA _ _ _ _ _ _ _ _ _ _ _ _ [_, _, _, _, _]
    refine wa_takeP (i := 16) (d := 3) 0 rfl (by kernel_rfl) (by kernel_rfl) (by kernel_rfl) rfl rfl rfl (fun w79 => run_assign rfl rfl) ?_
    refine wa_end (by kernel_rfl) (fun w80 S80 => ?_)
    refine nm_lp ?_
    intro ax_ hax_
    refine ⟨_, _, _, _, _, (Hp.le_refl _), hax_.sub ⟨rfl, rfl, rfl, trivial⟩, S80.pick [0, 1, 3, 2, 4] [_, _, _, _, _] (by decide) ⟨rfl, rfl, rfl, rfl, rfl, trivial⟩⟩
  ·refine (wo_make (C := cdA2) pl.length rfl rfl rfl rfl rfl sl78 (by first | rfl | omega) (by show _ * 16 ≤ _; first | omega | (simp only [lens]; omega)) S32 ?_)
   intro vr8 w81 S81; clear S32
   refine LeftW.grow [_] (Hp.le_refl _) S81 ?_; clear S81
   change WA _ _ _ _ _ _ _ _ _ _ _ _ [_, _]
   refine wa_two (i := 1) (j := 7) 4 rfl rfl (by kernel_rfl) rfl rfl rfl rfl (fun w84 S84 => ?_) (fun w84 S84 => ?_)
   ·refine (wo_makeMap Sp Int (fun x => Value.agg (cdCo.f x).toArray) (Value.int .i64) rfl rfl rfl S84 ?_)
    intro gm4 w85 S85; clear S84
    refine LeftW.grow [_, _] (Hp.le_refl _) S85 ?_; clear S85
    change WA _ _ _ _ _ _ _ _ _ _ _ _ [_, _, _]
    refine wa_only (i := 7) 3 rfl (by kernel_rfl) rfl rfl (fun w87 S87 => ?_)
    refine (wo_make (C := cdA4) pl.length rfl rfl rfl rfl rfl sl70 (by first | rfl | omega) (by show _ * 32 ≤ _; first | omega | (simp only [lens]; omega)) S87 ?_)
    intro vr9 w88 S88; clear S87
    refine LeftW.grow [_, _, _] (Hp.le_refl _) S88 ?_; clear S88
    change WA _ _ _ _ _ _ _ _ _ _ _ _ [_, _, _, _]
    refine wa_base ?_
    refine wa_take (i := 14) (d := 29) 2 rfl (by kernel_rfl) (by kernel_rfl) (by kernel_rfl) rfl rfl rfl (fun M54 N53 w89 hle54 S89 => .inl (run_build (l := [.pointer (some ⟨gt, 0, none⟩), .map (some gm4), vr9, vr8]) rfl rfl st80 rfl (by obtain ⟨_, _, e9, _⟩ := S89.suf.sl (i := 2) rfl; subst e9; obtain ⟨_, _, e9, _⟩ := S89.suf.sl (i := 0) rfl; subst e9; rfl))) ?_
    refine wa_only (i := 15) 1 rfl (by kernel_rfl) rfl rfl (fun w91 S91 => ?_)
    refine (wo_box (l := [_, _, _, _]) rfl rfl rfl rfl rfl S91 ?_)
    intro gb6 w92 S92; clear S91
    refine LeftW.grow [_] (Hp.le_refl _) S92 ?_; clear S92
    change WA _ _ _ _ _ _ _ _ _ _ _ _ [_, _, _, _, _]
    refine wa_takeP (i := 16) (d := 3) 0 rfl (by kernel_rfl) (by kernel_rfl) (by kernel_rfl) rfl rfl rfl (fun w93 => run_assign rfl rfl) ?_
    refine wa_end (by kernel_rfl) (fun w94 S94 => ?_)
    refine nm_lp ?_
    intro ax_ hax_
    refine ⟨_, _, _, _, _, (Hp.le_refl _), hax_.sub ⟨rfl, rfl, rfl, trivial⟩, S94.pick [0, 2, 1, 3, 4] [_, _, _, _, _] (by decide) ⟨rfl, rfl, rfl, rfl, rfl, trivial⟩⟩
   ·refine (wo_make (C := cdA4) pl.length rfl rfl rfl rfl rfl sl70 (by first | rfl | omega) (by show _ * 32 ≤ _; first | omega | (simp only [lens]; omega)) S84 ?_)
    intro vr10 w95 S95; clear S84
    refine LeftW.grow [_, _] (Hp.le_refl _) S95 ?_; clear S95
    change WA _ _ _ _ _ _ _ _ _ _ _ _ [_, _, _]
    refine wa_only (i := 1) 3 rfl (by kernel_rfl) rfl rfl (fun w97 S97 => ?_)
    refine (wo_makeMap Sp Int (fun x => Value.agg (cdCo.f x).toArray) (Value.int .i64) rfl rfl rfl S97 ?_)
    intro gm5 w98 S98; clear S97
    refine LeftW.grow [_, _, _] (Hp.le_refl _) S98 ?_; clear S98
    change WA _ _ _ _ _ _ _ _ _ _ _ _ [_, _, _, _]
    refine wa_base ?_
    refine wa_take (i := 14) (d := 29) 2 rfl (by kernel_rfl) (by kernel_rfl) (by kernel_rfl) rfl rfl rfl (fun M58 N57 w99 hle58 S99 => .inl (run_build (l := [.pointer (some ⟨gt, 0, none⟩), .map (some gm5), vr10, vr8]) rfl rfl st80 rfl (by obtain ⟨_, _, e9, _⟩ := S99.suf.sl (i := 1) rfl; subst e9; obtain ⟨_, _, e9, _⟩ := S99.suf.sl (i := 2) rfl; subst e9; rfl))) ?_
    refine wa_only (i := 15) 1 rfl (by kernel_rfl) rfl rfl (fun w101 S101 => ?_)
    refine (wo_box (l := [_, _, _, _]) rfl rfl rfl rfl rfl S101 ?_)
    intro gb7 w102 S102; clear S101
    refine LeftW.grow [_] (Hp.le_refl _) S102 ?_; clear S102
    change WA _ _ _ _ _ _ _ _ _ _ _ _ [_, _, _, _, _]
    refine wa_takeP (i := 16) (d := 3) 0 rfl (by kernel_rfl) (by kernel_rfl) (by kernel_rfl) rfl rfl rfl (fun w103 => run_assign rfl rfl) ?_
    refine wa_end (by kernel_rfl) (fun w104 S104 => ?_)
    refine nm_lp ?_
    intro ax_ hax_
    refine ⟨_, _, _, _, _, (Hp.le_refl _), hax_.sub ⟨rfl, rfl, rfl, trivial⟩, S104.pick [0, 1, 2, 3, 4] [_, _, _, _, _] (by decide) ⟨rfl, rfl, rfl, rfl, rfl, trivial⟩⟩
 ·rintro a1 w2 ⟨var, vinn, gwb, gpm, M1, hle1, he1, S2⟩
  clear S1
  refine nm_in he1 ?_
  clear he1 a1
  replace hbx := hbx.mono hle1
  replace hpl := hpl.mono hle1
  replace hti := hti.mono hle1
  refine nm_thn ?_
  refine ws_seqN Diagram_n5 Diagram_n6 rfl rfl rfl ?_
  refine ws_seqN Diagram_n7 Diagram_n8 rfl rfl rfl ?_
  have hrc1 : (List.replicate pl.length cdA4.z) = ((List.replicate n [0, 0, 0, 0]).map toA4) := (by rw [hpll, List.map_replicate]; rfl)
  rw [hrc1] at S2; clear hrc1
  have hrc2 : (List.replicate pl.length cdA2.z) = ((List.replicate 0 [-1, -1] ++ List.replicate (n - 0) [0, 0]).map toA2) := (by rw [hpll]; show _ = List.map toA2 (List.replicate n [0, 0]); rw [List.map_replicate]; rfl)
  rw [hrc2] at S2; clear hrc2
  have hmc1 : [] = pmN pl (4 * 0) := rfl
  rw [hmc1] at S2; clear hmc1
  refine ws_region rfl ?_
  refine wlm 0 1 rfl rfl rfl rfl rfl rfl rfl ?_
  refine wlo 1 2 rfl rfl rfl (wo_run rfl rfl (run_nilCheck rfl rfl) ?_)
  refine wlo 2 3 rfl rfl rfl (wo_run rfl rfl (run_fieldAddr rfl rfl Try.underlying72 rfl (ce70) (nf70)) ?_)
  refine wlo 3 4 rfl rfl rfl (wo_run rfl rfl (run_load1 rfl rfl Try.underlying70 rfl (hbx.cell S2.m rfl)) ?_)
  refine wlo 4 5 rfl rfl rfl (wo_run rfl rfl (run_len rfl rfl rfl rfl rfl rfl Try.underlying70) ?_)
  refine wlm 5 6 rfl rfl rfl rfl rfl rfl rfl ?_
  refine wl_end rfl ?_
  refine nm_sub [(0, _), (2, _), (3, _), (34, _), (35, _), (36, _)] ⟨rfl, rfl, rfl, rfl, rfl, rfl, trivial⟩ ?_
  refine nm_thn ?_
  refine ws_blockN Diagram_n9 0 rfl rfl rfl ?_
  refine ws_loopE (fun mx_ ax_ wx_ => ∃ (c : Nat), mx_ = n - 1 * c ∧ Env 159 [(0, .pointer (some ⟨gt, 0, none⟩)), (2, .pointer (some ⟨gb1, 0, none⟩)), (3, .pointer (some ⟨gwb, 0, none⟩)), (34, .slice plA pl.length plc), (35, .int .i64 (pl.length : Int)), (36, .int .i64 (c : Int))] ax_ ∧ SH wx_ M1 X [Rs.box gwb 80 [.pointer (some ⟨gt, 0, none⟩), .map (some gpm), var, vinn], Rs.mp (fun x => Value.agg (cdCo.f x).toArray) (Value.int .i64) gpm (pmN pl (4 * c)), Rs.row cdA4 var ((List.replicate n [0, 0, 0, 0]).map toA4), Rs.row cdA2 vinn ((List.replicate c [-1, -1] ++ List.replicate (n - c) [0, 0]).map toA2), Rs.box gb1 41 [.slice none 0 0, .int .i64 0]] ∧ c ≤ n) rfl ?_ ?_
  ·intro ax_ hax_
   refine ⟨_, ⟨0, rfl, hax_.sub ⟨rfl, rfl, rfl, rfl, rfl, rfl, trivial⟩, S2.pick [0, 1, 2, 3, 4] [_, _, _, _, _] (by decide) ⟨rfl, rfl, rfl, rfl, rfl, trivial⟩, ?hq7f0⟩⟩
   case hq7f0 => exact Nat.zero_le _
  ·rintro m6 a2 w105 ⟨c, rfl, he2, S105, hc⟩
   clear S2
   refine ws_in he2 (c := Diagram_n10) rfl ?_
   clear he2 a2
   have hinl : ((List.replicate c [-1, -1] ++ List.replicate (n - c) [0, 0]).map toA2).length = n := by simp; omega
   refine ws_seqN Diagram_n11 Diagram_n12 rfl rfl rfl ?_
   refine ws_region rfl ?_
   refine wlo 0 1 rfl rfl rfl (wo_run rfl rfl (run_lss rfl rfl rfl) ?_)
   refine wl_end rfl ?_
   refine nm_thn ?_
   refine ws_seqN Diagram_n13 Diagram_n14 rfl rfl rfl ?_
   refine ws_condN Diagram_n15 Diagram_n16 rfl rfl rfl rfl (fun hb37 => ?_) (fun hb37 => ?_)
   ·replace hb37 := of_decide_eq_true hb37
    refine ws_skip rfl ?_
    refine nm_sub [(0, _), (2, _), (3, _), (34, _), (35, _), (36, _)] ⟨rfl, rfl, rfl, rfl, rfl, rfl, trivial⟩ ?_
    refine nm_thn ?_
    refine ws_seqN Diagram_n17 Diagram_n18 rfl rfl rfl ?_
    refine ws_blockN Diagram_n19 1 rfl rfl rfl ?_
    refine ws_seqN Diagram_n20 Diagram_n21 rfl rfl rfl ?_
    refine ws_region rfl ?_
    refine wlm 0 1 rfl rfl rfl rfl rfl rfl rfl ?_
    refine wlo 1 2 rfl rfl rfl (wo_run rfl rfl (run_indexM (C := cdA4) c rfl rfl rfl sl70 (by first | rfl | omega) hpl (by first | omega | (simp only [lens]; omega))) ?_)
    refine wlo 2 3 rfl rfl rfl (wo_run rfl rfl (run_loadN (us := [_, _, _, _]) rfl rfl Try.underlying73 rfl sz73 (hpl.cellsAt S105.m (e := c) (by first | omega | (simp only [lens]; omega)) (j := 0) ⟨rfl, rfl, rfl, rfl, trivial⟩)) ?_)
    refine wlo 3 4 rfl rfl rfl (wo_alloc (l := [_, _, _, _]) rfl rfl rfl zr73 rfl S105 ?_)
    intro gb8 w106 S106; clear S105
    refine wla 4 5 rfl rfl rfl rfl rfl rfl rfl ?_
    refine wlo 5 6 rfl rfl rfl (wo_storeB (i := 0) (us := [_, _, _, _]) (l' := [_, _, _, _]) (H' := [_, _, _, _, _, _]) rfl rfl S106 rfl rfl rfl rfl sz73 rfl rfl rfl rfl ?_)
    intro w107 S107; clear S106
    refine wl_end rfl ?_
    refine nm_sub [(0, _), (2, _), (3, _), (34, _), (35, _), (36, _), (5, _), (4, _)] ⟨rfl, rfl, rfl, rfl, rfl, rfl, rfl, rfl, trivial⟩ ?_
    refine nm_thn ?_
    refine ws_seqN Diagram_n22 Diagram_n23 rfl rfl rfl ?_
    refine ws_region rfl ?_
    refine wlm 0 1 rfl rfl rfl rfl rfl rfl rfl ?_
    refine wlo 1 2 rfl rfl rfl (wo_run rfl rfl (run_nilCheck rfl rfl) ?_)
    refine wlo 2 3 rfl rfl rfl (wo_run rfl rfl (run_fieldAddr rfl rfl Try.underlying80 rfl (ce78) (nf78)) ?_)
    refine wlo 3 4 rfl rfl rfl (wo_run rfl rfl (run_load1 rfl rfl Try.underlying78 rfl (S107.boxc (i := 1) rfl rfl)) ?_)
    refine wlm 4 5 rfl rfl rfl rfl rfl rfl rfl ?_
    refine wlo 5 6 rfl rfl rfl (wo_run rfl rfl (run_buildA (l := [_, _]) (pl := [(0, 1), (1, 1)]) rfl rfl Try.underlying74 zr74 sz3 rfl rfl rfl) ?_)
    refine wlo 6 7 rfl rfl rfl (wo_run rfl rfl (run_indexR (C := cdA2) (i := 4) c rfl rfl rfl sl78 S107 rfl (by first | rfl | omega) (by first | omega | (simp only [lens]; omega))) ?_)
    refine wlo 7 8 rfl rfl rfl (wo_storeR (C := cdA2) (i := 4) (e := c) (j := 0) (us := [_, _]) (H' := [_, _, _, _, _, _]) (⟨(-1), (-1)⟩ : A2) rfl rfl S107 rfl (by first | omega | (simp only [lens]; omega)) rfl rfl rfl sz74 rfl rfl rfl rfl ?_)
    intro w108 S108; clear S107
    refine wl_end rfl ?_
    refine nm_sub [(0, _), (2, _), (3, _), (34, _), (35, _), (36, _), (5, _), (4, _)] ⟨rfl, rfl, rfl, rfl, rfl, rfl, rfl, rfl, trivial⟩ ?_
    refine nm_thn ?_
    refine ws_seqN Diagram_n24 Diagram_n25 rfl rfl rfl ?_
    have hrc3 : ((List.replicate c [-1, -1] ++ List.replicate (n - c) [0, 0]).map toA2).set c (⟨(-1), (-1)⟩ : A2) = ((List.replicate (c + 1) [-1, -1] ++ List.replicate (n - (c + 1)) [0, 0]).map toA2) := in_next (by omega)
    rw [hrc3] at S108; clear hrc3
    refine ws_region rfl ?_
    refine wlo 0 1 rfl rfl rfl (wo_run rfl rfl (run_loadN (us := [_, _, _, _]) rfl rfl Try.underlying73 rfl sz73 (S108.boxcs (i := 0) rfl ⟨rfl, rfl, rfl, rfl, trivial⟩)) ?_)
    refine wlm 1 2 rfl rfl rfl rfl rfl rfl rfl ?_
    refine wl_end rfl ?_
    refine nm_sub [(0, _), (2, _), (3, _), (34, _), (35, _), (36, _), (4, _), (48, _), (49, _)] ⟨rfl, rfl, rfl, rfl, rfl, rfl, rfl, rfl, rfl, trivial⟩ ?_
    refine nm_thn ?_
    refine ws_blockN Diagram_n26 2 rfl rfl rfl ?_
    refine ws_loopE (fun mx_ ax_ wx_ => ∃ (j : Nat), mx_ = 4 - 1 * j ∧ Env 159 [(0, .pointer (some ⟨gt, 0, none⟩)), (2, .pointer (some ⟨gb1, 0, none⟩)), (3, .pointer (some ⟨gwb, 0, none⟩)), (34, .slice plA pl.length plc), (35, .int .i64 (pl.length : Int)), (36, .int .i64 (c : Int)), (4, .int .i64 (c : Int)), (48, .agg [.int .i64 ((ga pl c).a), .int .i64 ((ga pl c).b), .int .i64 ((ga pl c).c), .int .i64 ((ga pl c).d)].toArray), (49, .int .i64 (j : Int))] ax_ ∧ SH wx_ M1 X [Rs.box gwb 80 [.pointer (some ⟨gt, 0, none⟩), .map (some gpm), var, vinn], Rs.mp (fun x => Value.agg (cdCo.f x).toArray) (Value.int .i64) gpm (pmN pl (4 * c + j)), Rs.row cdA4 var ((List.replicate n [0, 0, 0, 0]).map toA4), Rs.row cdA2 vinn ((List.replicate (c + 1) [-1, -1] ++ List.replicate (n - (c + 1)) [0, 0]).map toA2), Rs.box gb1 41 [.slice none 0 0, .int .i64 0]] ∧ j ≤ 4) rfl ?_ ?_
    ·intro ax_ hax_
     refine ⟨_, ⟨0, rfl, hax_.sub ⟨rfl, rfl, rfl, rfl, rfl, rfl, rfl, rfl, rfl, trivial⟩, S108.pick [1, 2, 3, 4, 5] [_, _, _, _, _] (by decide) ⟨rfl, rfl, rfl, rfl, rfl, trivial⟩, ?hq8f0⟩⟩
     case hq8f0 => exact Nat.zero_le _
    ·rintro m7 a3 w109 ⟨j, rfl, he3, S109, hj⟩
     clear S108
     refine ws_in he3 (c := Diagram_n27) rfl ?_
     clear he3 a3
     refine ws_seqN Diagram_n28 Diagram_n29 rfl rfl rfl ?_
     refine ws_region rfl ?_
     refine wlo 0 1 rfl rfl rfl (wo_run rfl rfl (run_lss rfl rfl rfl) ?_)
     refine wl_end rfl ?_
     refine nm_thn ?_
     refine ws_seqN Diagram_n30 Diagram_n31 rfl rfl rfl ?_
     refine ws_condN Diagram_n32 Diagram_n33 rfl rfl rfl rfl (fun hb50 => ?_) (fun hb50 => ?_)
     ·replace hb50 := of_decide_eq_true hb50
      refine ws_skip rfl ?_
      refine nm_sub [(0, _), (2, _), (3, _), (34, _), (35, _), (36, _), (4, _), (48, _), (49, _)] ⟨rfl, rfl, rfl, rfl, rfl, rfl, rfl, rfl, rfl, trivial⟩ ?_
      refine nm_thn ?_
      refine ws_seqN Diagram_n34 Diagram_n35 rfl rfl rfl ?_
      refine ws_blockN Diagram_n36 3 rfl rfl rfl ?_
      refine ws_seqN Diagram_n37 Diagram_n38 rfl rfl rfl ?_
      refine ws_region rfl ?_
      refine wlm 0 1 rfl rfl rfl rfl rfl rfl rfl ?_
      refine wlo 1 2 rfl rfl rfl (wo_run rfl rfl (run_index1 (e := j) rfl rfl rfl Try.underlying73 Try.underlying3 rfl sz3 (by first | rfl | omega) (by first | omega | (simp only [lens]; omega)) (nth_iv [(ga pl c).a, (ga pl c).b, (ga pl c).c, (ga pl c).d] j (by simp; first | omega | (simp only [lens]; omega)))) ?_)
      refine wla 2 3 rfl rfl rfl rfl rfl rfl rfl ?_
      refine wla 3 4 rfl rfl rfl rfl rfl rfl rfl ?_
      refine wl_end rfl ?_
      refine nm_sub [(0, _), (2, _), (3, _), (34, _), (35, _), (36, _), (4, _), (48, _), (49, _), (6, _), (7, _)] ⟨rfl, rfl, rfl, rfl, rfl, rfl, rfl, rfl, rfl, rfl, rfl, trivial⟩ ?_
      refine nm_thn ?_
      refine ws_region rfl ?_
      refine wlm 0 1 rfl rfl rfl rfl rfl rfl rfl ?_
      refine wlo 1 2 rfl rfl rfl (wo_run rfl rfl (run_nilCheck rfl rfl) ?_)
      refine wlo 2 3 rfl rfl rfl (wo_run rfl rfl (run_fieldAddr rfl rfl Try.underlying80 rfl (ce77) (nf77)) ?_)
      refine wlo 3 4 rfl rfl rfl (wo_run rfl rfl (run_load1 rfl rfl Try.underlying77 rfl (S109.boxc (i := 0) rfl rfl)) ?_)
      refine wlm 4 5 rfl rfl rfl rfl rfl rfl rfl ?_
      refine wlm 5 6 rfl rfl rfl rfl rfl rfl rfl ?_
      refine wlo 6 7 rfl rfl rfl (wo_run rfl rfl (run_build (l := [_, _]) rfl rfl st65 rfl rfl) ?_)
      refine wlm 7 8 rfl rfl rfl rfl rfl rfl rfl ?_
      refine wlo 8 9 rfl rfl rfl (wo_mapUpdate (kc := (fun x => Value.agg (cdCo.f x).toArray)) (vc := (Value.int .i64)) (es := (pmN pl (4 * c + j))) (k := (⟨(c : Int), ga [(ga pl c).a, (ga pl c).b, (ga pl c).c, (ga pl c).d] j⟩ : Sp)) (e := (j : Int)) (i := 1) (H' := [_, _, _, _, _]) (.inl rfl) rfl S109 rfl rfl rfl rfl Try.underlying77 mk65 rfl ?_)
      intro w110 S110; clear S109
      refine wl_end rfl ?_
      refine nm_blk ?_
      refine nm_sub [(0, _), (2, _), (3, _), (34, _), (35, _), (36, _), (4, _), (48, _), (49, _)] ⟨rfl, rfl, rfl, rfl, rfl, rfl, rfl, rfl, rfl, trivial⟩ ?_
      refine nm_thn ?_
      refine ws_region rfl ?_
      refine wlo 0 1 rfl rfl rfl (wo_run rfl rfl (run_add rfl rfl rfl (by first | omega | (simp only [lens]; omega))) ?_)
      refine wlm 1 2 rfl rfl rfl rfl rfl rfl rfl ?_
      refine wl_end rfl ?_
      refine nm_lp ?_
      have hmc2 : mp (⟨(c : Int), ga [(ga pl c).a, (ga pl c).b, (ga pl c).c, (ga pl c).d] j⟩ : Sp) (j : Int) (pmN pl (4 * c + j)) = pmN pl (4 * c + (j + 1)) := pmN_step pl (by omega)
      rw [hmc2] at S110; clear hmc2
      intro ax_ hax_
      refine ⟨_, ?hq9m, ⟨j + 1, rfl, hax_.sub ⟨rfl, rfl, rfl, rfl, rfl, rfl, rfl, rfl, rfl, trivial⟩, S110.pick [0, 1, 2, 3, 4] [_, _, _, _, _] (by decide) ⟨rfl, rfl, rfl, rfl, rfl, trivial⟩, ?hq9f0⟩⟩
      case hq9f0 => first | assumption | omega
      case hq9m => omega
     ·replace hb50 := of_decide_eq_false hb50
      refine ws_exit rfl rfl ?_
      refine nm_blk ?_
      refine nm_sub [(0, _), (2, _), (3, _), (34, _), (35, _), (36, _)] ⟨rfl, rfl, rfl, rfl, rfl, rfl, trivial⟩ ?_
      refine nm_thn ?_
      refine ws_region rfl ?_
      refine wlo 0 1 rfl rfl rfl (wo_run rfl rfl (run_add rfl rfl rfl (by first | omega | (simp only [lens]; omega))) ?_)
      refine wlm 1 2 rfl rfl rfl rfl rfl rfl rfl ?_
      refine wl_end rfl ?_
      refine nm_lp ?_
      have hmc3 : pmN pl (4 * c + j) = pmN pl (4 * (c + 1)) := (by rw [show 4 * c + j = 4 * (c + 1) by omega])
      rw [hmc3] at S109; clear hmc3
      intro ax_ hax_
      refine ⟨_, ?hq10m, ⟨c + 1, rfl, hax_.sub ⟨rfl, rfl, rfl, rfl, rfl, rfl, trivial⟩, S109.pick [0, 1, 2, 3, 4] [_, _, _, _, _] (by decide) ⟨rfl, rfl, rfl, rfl, rfl, trivial⟩, ?hq10f0⟩⟩
      case hq10f0 => first | assumption | omega
      case hq10m => omega
   ·replace hb37 := of_decide_eq_false hb37
    refine ws_exit rfl rfl ?_
    refine nm_sub [(0, _), (2, _), (3, _)] ⟨rfl, rfl, rfl, trivial⟩ ?_
    refine nm_thn ?_
    refine ws_seqN Diagram_n39 Diagram_n40 rfl rfl rfl ?_
    refine ws_region rfl ?_
    refine wla 0 1 rfl rfl rfl rfl rfl rfl rfl ?_
    refine wl_end rfl ?_
    refine nm_thn ?_
    refine ws_seqN Diagram_n41 Diagram_n42 rfl rfl rfl ?_
    refine ws_seqN Diagram_n43 Diagram_n44 rfl rfl rfl ?_
    have hmc4 : pmN pl (4 * c) = pmN pl (4 * n) := (by rw [show c = n by omega])
    rw [hmc4] at S105; clear hmc4
    have hrc4 : ((List.replicate c [-1, -1] ++ List.replicate (n - c) [0, 0]).map toA2) = ((rgs pi n (2 * 0)).inn.map toA2) := (by rw [show c = n by omega, Nat.sub_self, List.replicate_zero, List.append_nil]; rfl)
    rw [hrc4] at S105; clear hrc4
    have hrc5 : ((List.replicate n [0, 0, 0, 0]).map toA4) = ((rgs pi n (2 * 0)).ar.map toA4) := rfl
    rw [hrc5] at S105; clear hrc5
    refine ws_eq 8 (.int .i64 ((rgs pi n (2 * 0)).n + 1)) rfl rfl ?_
    clear hc
    refine ws_region rfl ?_
    refine wlm 0 1 rfl rfl rfl rfl rfl rfl rfl ?_
    refine wlo 1 2 rfl rfl rfl (wo_run rfl rfl (run_nilCheck rfl rfl) ?_)
    refine wlo 2 3 rfl rfl rfl (wo_run rfl rfl (run_fieldAddr rfl rfl Try.underlying72 rfl (ce70) (nf70)) ?_)
    refine wlo 3 4 rfl rfl rfl (wo_run rfl rfl (run_load1 rfl rfl Try.underlying70 rfl (hbx.cell S105.m rfl)) ?_)
    refine wlo 4 5 rfl rfl rfl (wo_run rfl rfl (run_len rfl rfl rfl rfl rfl rfl Try.underlying70) ?_)
    refine wlm 5 6 rfl rfl rfl rfl rfl rfl rfl ?_
    refine wl_end rfl ?_
    refine nm_sub [(0, _), (2, _), (3, _), (8, _), (67, _), (68, _)] ⟨rfl, rfl, rfl, rfl, rfl, rfl, trivial⟩ ?_
    refine nm_thn ?_
    refine ws_blockN Diagram_n45 4 rfl rfl rfl ?_
    refine ws_loopE (fun mx_ ax_ wx_ => ∃ (c : Nat), mx_ = n - 1 * c ∧ Env 159 [(0, .pointer (some ⟨gt, 0, none⟩)), (2, .pointer (some ⟨gb1, 0, none⟩)), (3, .pointer (some ⟨gwb, 0, none⟩)), (8, .int .i64 ((rgs pi n (2 * c)).n + 1)), (67, .int .i64 (pl.length : Int)), (68, .int .i64 (c : Int))] ax_ ∧ SH wx_ M1 X [Rs.box gwb 80 [.pointer (some ⟨gt, 0, none⟩), .map (some gpm), var, vinn], Rs.mp (fun x => Value.agg (cdCo.f x).toArray) (Value.int .i64) gpm (pmN pl (4 * n)), Rs.row cdA4 var ((rgs pi n (2 * c)).ar.map toA4), Rs.row cdA2 vinn ((rgs pi n (2 * c)).inn.map toA2), Rs.box gb1 41 [.slice none 0 0, .int .i64 0]] ∧ c ≤ n) rfl ?_ ?_
    ·intro ax_ hax_
     refine ⟨_, ⟨0, rfl, hax_.sub ⟨rfl, rfl, rfl, rfl, rfl, rfl, trivial⟩, S105.pick [0, 1, 2, 3, 4] [_, _, _, _, _] (by decide) ⟨rfl, rfl, rfl, rfl, rfl, trivial⟩, ?hq11f0⟩⟩
     case hq11f0 => exact Nat.zero_le _
    ·rintro m8 a4 w111 ⟨c, rfl, he4, S111, hc⟩
     clear S105
     refine ws_in he4 (c := Diagram_n46) rfl ?_
     clear he4 a4
     refine ws_seqN Diagram_n47 Diagram_n48 rfl rfl rfl ?_
     refine ws_region rfl ?_
     refine wlo 0 1 rfl rfl rfl (wo_run rfl rfl (run_lss rfl rfl rfl) ?_)
     refine wl_end rfl ?_
     refine nm_thn ?_
     refine ws_seqN Diagram_n49 Diagram_n50 rfl rfl rfl ?_
     refine ws_condN Diagram_n51 Diagram_n52 rfl rfl rfl rfl (fun hb69 => ?_) (fun hb69 => ?_)
     ·replace hb69 := of_decide_eq_true hb69
      refine ws_skip rfl ?_
      refine nm_sub [(0, _), (2, _), (3, _), (8, _), (67, _), (68, _)] ⟨rfl, rfl, rfl, rfl, rfl, rfl, trivial⟩ ?_
      refine nm_thn ?_
      refine ws_seqN Diagram_n53 Diagram_n54 rfl rfl rfl ?_
      refine ws_blockN Diagram_n55 5 rfl rfl rfl ?_
      refine ws_seqN Diagram_n56 Diagram_n57 rfl rfl rfl ?_
      refine ws_region rfl ?_
      refine wlm 0 1 rfl rfl rfl rfl rfl rfl rfl ?_
      refine wla 1 2 rfl rfl rfl rfl rfl rfl rfl ?_
      refine wl_end rfl ?_
      refine nm_sub [(0, _), (2, _), (3, _), (8, _), (67, _), (68, _), (9, _)] ⟨rfl, rfl, rfl, rfl, rfl, rfl, rfl, trivial⟩ ?_
      refine nm_thn ?_
      refine ws_seqN Diagram_n58 Diagram_n59 rfl rfl rfl ?_
      refine ws_region rfl ?_
      refine wlm 0 1 rfl rfl rfl rfl rfl rfl rfl ?_
      refine wl_end rfl ?_
      refine nm_thn ?_
      refine ws_blockN Diagram_n60 6 rfl rfl rfl ?_
      refine ws_loopE (fun mx_ ax_ wx_ => ∃ (q : Nat), mx_ = 2 - 1 * q ∧ Env 159 [(0, .pointer (some ⟨gt, 0, none⟩)), (2, .pointer (some ⟨gb1, 0, none⟩)), (3, .pointer (some ⟨gwb, 0, none⟩)), (8, .int .i64 ((rgs pi n (2 * c + q)).n + 1)), (67, .int .i64 (pl.length : Int)), (68, .int .i64 (c : Int)), (9, .int .i64 (c : Int)), (71, .int .i64 (q : Int))] ax_ ∧ SH wx_ M1 X [Rs.box gwb 80 [.pointer (some ⟨gt, 0, none⟩), .map (some gpm), var, vinn], Rs.mp (fun x => Value.agg (cdCo.f x).toArray) (Value.int .i64) gpm (pmN pl (4 * n)), Rs.row cdA4 var ((rgs pi n (2 * c + q)).ar.map toA4), Rs.row cdA2 vinn ((rgs pi n (2 * c + q)).inn.map toA2), Rs.box gb1 41 [.slice none 0 0, .int .i64 0]] ∧ q ≤ 2) rfl ?_ ?_
      ·intro ax_ hax_
       refine ⟨_, ⟨0, rfl, hax_.sub ⟨rfl, rfl, rfl, rfl, rfl, rfl, rfl, rfl, trivial⟩, S111.pick [0, 1, 2, 3, 4] [_, _, _, _, _] (by decide) ⟨rfl, rfl, rfl, rfl, rfl, trivial⟩, ?hq12f0⟩⟩
       case hq12f0 => exact Nat.zero_le _
      ·rintro m9 a5 w112 ⟨q, rfl, he5, S112, hq⟩
       clear S111
       refine ws_in he5 (c := Diagram_n61) rfl ?_
       clear he5 a5
       have hro := (rgs_ok hp (2 * c + q) (by omega)).1
       have hsum := rgs_sum hp (2 * c + q) (by omega)
       have hla : ((rgs pi n (2 * c + q)).ar.map toA4).length = n := by rw [List.length_map, hro.ar.1]
       have hli : ((rgs pi n (2 * c + q)).inn.map toA2).length = n := by rw [List.length_map, hro.inn.1]
       have hget := fun h2 => in_get hro.inn (c := (c : Int)) (p := (q : Int)) ⟨by omega, by omega⟩ h2
       simp only [Int.toNat_natCast] at hget
       refine ws_seqN Diagram_n62 Diagram_n63 rfl rfl rfl ?_
       refine ws_region rfl ?_
       refine wlo 0 1 rfl rfl rfl (wo_run rfl rfl (run_lss rfl rfl rfl) ?_)
       refine wl_end rfl ?_
       refine nm_thn ?_
       refine ws_seqN Diagram_n64 Diagram_n65 rfl rfl rfl ?_
       refine ws_condN Diagram_n66 Diagram_n67 rfl rfl rfl rfl (fun hb72 => ?_) (fun hb72 => ?_)
       ·replace hb72 := of_decide_eq_true hb72
        refine ws_skip rfl ?_
        refine nm_sub [(0, _), (2, _), (3, _), (8, _), (67, _), (68, _), (9, _), (71, _)] ⟨rfl, rfl, rfl, rfl, rfl, rfl, rfl, rfl, trivial⟩ ?_
        refine nm_thn ?_
        refine ws_seqN Diagram_n68 Diagram_n69 rfl rfl rfl ?_
        refine ws_blockN Diagram_n70 7 rfl rfl rfl ?_
        refine ws_seqN Diagram_n71 Diagram_n72 rfl rfl rfl ?_
        refine ws_region rfl ?_
        refine wlm 0 1 rfl rfl rfl rfl rfl rfl rfl ?_
        refine wla 1 2 rfl rfl rfl rfl rfl rfl rfl ?_
        refine wl_end rfl ?_
        refine nm_sub [(0, _), (2, _), (3, _), (8, _), (67, _), (68, _), (9, _), (71, _), (10, _)] ⟨rfl, rfl, rfl, rfl, rfl, rfl, rfl, rfl, rfl, trivial⟩ ?_
        refine nm_thn ?_
        refine ws_seqN Diagram_n73 Diagram_n74 rfl rfl rfl ?_
        refine ws_region rfl ?_
        refine wlm 0 1 rfl rfl rfl rfl rfl rfl rfl ?_
        refine wlo 1 2 rfl rfl rfl (wo_run rfl rfl (run_nilCheck rfl rfl) ?_)
        refine wlo 2 3 rfl rfl rfl (wo_run rfl rfl (run_fieldAddr rfl rfl Try.underlying80 rfl (ce78) (nf78)) ?_)
        refine wlo 3 4 rfl rfl rfl (wo_run rfl rfl (run_load1 rfl rfl Try.underlying78 rfl (S112.boxc (i := 0) rfl rfl)) ?_)
        refine wlm 4 5 rfl rfl rfl rfl rfl rfl rfl ?_
        refine wlm 5 6 rfl rfl rfl rfl rfl rfl rfl ?_
        refine wlo 6 7 rfl rfl rfl (wo_run rfl rfl (run_indexR (C := cdA2) (i := 3) c rfl rfl rfl sl78 S112 rfl (by first | rfl | omega) (by first | omega | (simp only [lens]; omega))) ?_)
        refine wlo 7 8 rfl rfl rfl (wo_run rfl rfl (run_indexPX q 1 _ (c * cdA2.k + q) rfl rfl rfl Try.underlying74 sz3 (by first | rfl | omega) (by first | omega | (simp only [lens]; omega)) (by show c * cdA2.k + 0 * 1 + q * 1 = _; omega)) ?_)
        refine wlo 8 9 rfl rfl rfl (wo_run rfl rfl (run_load1 rfl rfl Try.underlying3 rfl (S112.rowc (i := 3) (e := c) (j := q) rfl (by first | omega | (simp only [lens]; omega)) (blt_a2 (by first | omega | (simp only [lens]; omega))) (nth_a2 _ (by first | omega | (simp only [lens]; omega))))) ?_)
        refine wlo 9 10 rfl rfl rfl (wo_run rfl rfl (run_lss rfl rfl rfl) ?_)
        refine wl_end rfl ?_
        refine nm_sub [(0, _), (2, _), (3, _), (8, _), (67, _), (68, _), (9, _), (71, _), (10, _), (83, _)] ⟨rfl, rfl, rfl, rfl, rfl, rfl, rfl, rfl, rfl, rfl, trivial⟩ ?_
        refine nm_thn ?_
        refine ws_condN Diagram_n75 Diagram_n76 rfl rfl rfl rfl (fun hb83 => ?_) (fun hb83 => ?_)
        ·replace hb83 := of_decide_eq_true hb83
         refine ws_region rfl ?_
         refine wlm 0 1 rfl rfl rfl rfl rfl rfl rfl ?_
         refine wlm 1 2 rfl rfl rfl rfl rfl rfl rfl ?_
         refine wlm 2 3 rfl rfl rfl rfl rfl rfl rfl ?_
         refine wlm 3 4 rfl rfl rfl rfl rfl rfl rfl ?_
         have S113 := S112.pick [0, 1, 2, 3, 4] [_, _, _, _, _] (by decide) ⟨rfl, rfl, rfl, rfl, rfl, trivial⟩; clear S112
         have S114 : SH _ _ _ (Rs.bun [_, _, _, _] :: [_]) := SH.bunC (A := [_, _, _, _]) (B := [_]) S113; clear S113
         have S115 : SH _ _ _ [_, _] := S114.less (i := 0) rfl
         have hcall1 := Ring_b ((rgs pi n (2 * c + q)).n) pi (pmN pl (4 * n)) ((rgs pi n (2 * c + q)).ar) ((rgs pi n (2 * c + q)).inn) (c : Int) (q : Int) hbx hpl hti (by first | omega | (simp only [lens]; omega)) (by first | omega | (simp only [lens]; omega)) (by exact hro.ar) (by exact hro.inn) (by exact ⟨by simp, by simp; omega, by simp, by simp; omega⟩) (by exact ⟨hro.ge, by omega⟩) (by exact ⟨hro, by omega, by (have := hget (by omega); omega), hn⟩) (S114.lend1 (i := 0) rfl); clear S115
         refine wlo 4 5 rfl rfl rfl (wo_c1 (i := 0) rfl rfl rfl rfl rfl rfl rfl cf34 S114 rfl hcall1 ?_)
         intro vw113 w113 M61 rw113 hle65 S116 hR1; clear S114
         obtain ⟨huhMX1, hMX1, hR2⟩ := hR1
         rw [hMX1] at S116
         clear hMX1
         subst huhMX1
         subst hR2
         replace S116 : SH _ _ _ (Rs.bun [_, _, _, _] :: [_]) := S116
         have S117 : SH _ _ _ [_, _, _, _, _] := SH.unbunC (A := [_, _, _, _]) (B := [_]) S116; clear S116
         refine wla 5 6 rfl rfl rfl rfl rfl rfl rfl ?_
         refine wl_end rfl ?_
         refine nm_blk ?_
         refine nm_sub [(0, _), (2, _), (3, _), (8, _), (67, _), (68, _), (9, _), (71, _)] ⟨rfl, rfl, rfl, rfl, rfl, rfl, rfl, rfl, trivial⟩ ?_
         refine nm_thn ?_
         refine ws_region rfl ?_
         refine wlo 0 1 rfl rfl rfl (wo_run rfl rfl (run_add rfl rfl rfl (by first | omega | (simp only [lens]; omega))) ?_)
         refine wlm 1 2 rfl rfl rfl rfl rfl rfl rfl ?_
         refine wl_end rfl ?_
         refine nm_lp ?_
         have hst : (rngS pi ⟨(rgs pi n (2 * c + q)).ar, (rgs pi n (2 * c + q)).inn, (rgs pi n (2 * c + q)).n⟩ ⟨(c : Int), (q : Int)⟩) = (rgs pi n (2 * c + (q + 1))) := rgs_step pi (by omega)
         rw [hst]
         rw [hst] at S117
         clear hst
         intro ax_ hax_
         refine ⟨_, ?hq13m, ⟨q + 1, rfl, hax_.sub ⟨rfl, rfl, rfl, rfl, rfl, rfl, rfl, rfl, trivial⟩, S117.pick [0, 1, 2, 3, 4] [_, _, _, _, _] (by decide) ⟨rfl, rfl, rfl, rfl, rfl, trivial⟩, ?hq13f0⟩⟩
         case hq13f0 => first | assumption | omega
         case hq13m => omega
        ·replace hb83 := of_decide_eq_false hb83
         refine ws_skip rfl ?_
         refine nm_blk ?_
         refine nm_sub [(0, _), (2, _), (3, _), (8, _), (67, _), (68, _), (9, _), (71, _)] ⟨rfl, rfl, rfl, rfl, rfl, rfl, rfl, rfl, trivial⟩ ?_
         refine nm_thn ?_
         refine ws_region rfl ?_
         refine wlo 0 1 rfl rfl rfl (wo_run rfl rfl (run_add rfl rfl rfl (by first | omega | (simp only [lens]; omega))) ?_)
         refine wlm 1 2 rfl rfl rfl rfl rfl rfl rfl ?_
         refine wl_end rfl ?_
         refine nm_lp ?_
         have hst : (rgs pi n (2 * c + q)) = (rgs pi n (2 * c + (q + 1))) := rgs_stay pi (by omega) (by have := hget (by omega); omega)
         rw [hst]
         rw [hst] at S112
         clear hst
         intro ax_ hax_
         refine ⟨_, ?hq14m, ⟨q + 1, rfl, hax_.sub ⟨rfl, rfl, rfl, rfl, rfl, rfl, rfl, rfl, trivial⟩, S112.pick [0, 1, 2, 3, 4] [_, _, _, _, _] (by decide) ⟨rfl, rfl, rfl, rfl, rfl, trivial⟩, ?hq14f0⟩⟩
         case hq14f0 => first | assumption | omega
         case hq14m => omega
       ·replace hb72 := of_decide_eq_false hb72
        refine ws_exit rfl rfl ?_
        refine nm_blk ?_
        refine nm_sub [(0, _), (2, _), (3, _), (8, _), (67, _), (68, _)] ⟨rfl, rfl, rfl, rfl, rfl, rfl, trivial⟩ ?_
        refine nm_thn ?_
        refine ws_region rfl ?_
        refine wlo 0 1 rfl rfl rfl (wo_run rfl rfl (run_add rfl rfl rfl (by first | omega | (simp only [lens]; omega))) ?_)
        refine wlm 1 2 rfl rfl rfl rfl rfl rfl rfl ?_
        refine wl_end rfl ?_
        refine nm_lp ?_
        have hst : (rgs pi n (2 * c + q)) = (rgs pi n (2 * (c + 1))) := by rw [show 2 * c + q = 2 * (c + 1) by omega]
        rw [hst]
        rw [hst] at S112
        clear hst
        intro ax_ hax_
        refine ⟨_, ?hq15m, ⟨c + 1, rfl, hax_.sub ⟨rfl, rfl, rfl, rfl, rfl, rfl, trivial⟩, S112.pick [0, 1, 2, 3, 4] [_, _, _, _, _] (by decide) ⟨rfl, rfl, rfl, rfl, rfl, trivial⟩, ?hq15f0⟩⟩
        case hq15f0 => first | assumption | omega
        case hq15m => omega
     ·replace hb69 := of_decide_eq_false hb69
      refine ws_exit rfl rfl ?_
      refine nm_sub [(0, _), (2, _), (3, _)] ⟨rfl, rfl, rfl, trivial⟩ ?_
      refine nm_thn ?_
      refine ws_seqN Diagram_n77 Diagram_n78 rfl rfl rfl ?_
      refine ws_region rfl ?_
      refine wlm 0 1 rfl rfl rfl rfl rfl rfl rfl ?_
      refine wlo 1 2 rfl rfl rfl (wo_run rfl rfl (run_nilCheck rfl rfl) ?_)
      refine wlo 2 3 rfl rfl rfl (wo_run rfl rfl (run_fieldAddr rfl rfl Try.underlying72 rfl (ce3) (nf3)) ?_)
      refine wlo 3 4 rfl rfl rfl (wo_run rfl rfl (run_load1 rfl rfl Try.underlying3 rfl (hbx.cell S111.m rfl)) ?_)
      refine wlo 4 5 rfl rfl rfl (wo_run rfl rfl (run_build (l := [_, _]) rfl rfl st41 rfl rfl) ?_)
      refine wlo 5 6 rfl rfl rfl (wo_alloc (l := [_, _]) rfl rfl rfl zr41 rfl S111 ?_)
      intro gb9 w114 S118; clear S111
      refine wlo 6 7 rfl rfl rfl (wo_storeB (i := 0) (us := [_, _]) (l' := [_, _]) (H' := [_, _, _, _, _, _]) rfl rfl S118 rfl rfl rfl rfl sz41 rfl rfl rfl rfl ?_)
      intro w115 S119; clear S118
      refine wl_end rfl ?_
      refine nm_sub [(0, _), (2, _), (3, _), (11, _)] ⟨rfl, rfl, rfl, rfl, trivial⟩ ?_
      refine nm_thn ?_
      refine ws_seqN Diagram_n79 Diagram_n80 rfl rfl rfl ?_
      refine ws_seqN Diagram_n81 Diagram_n82 rfl rfl rfl ?_
      have hrc6 : ((rgs pi n (2 * c)).ar.map toA4) = ((rgs pi n (2 * n)).ar.map toA4) := (by rw [show c = n by omega])
      rw [hrc6] at S119; clear hrc6
      have hrc7 : ((rgs pi n (2 * c)).inn.map toA2) = ((rgs pi n (2 * n)).inn.map toA2) := (by rw [show c = n by omega])
      rw [hrc7] at S119; clear hrc7
      clear hc
      obtain ⟨hro, _⟩ := rgs_ok hp (2 * n) (Nat.le_refl _)
      have hla : ((rgs pi n (2 * n)).ar.map toA4).length = n := by rw [List.length_map, hro.ar.1]
      have hli : ((rgs pi n (2 * n)).inn.map toA2).length = n := by rw [List.length_map, hro.inn.1]
      refine ws_region rfl ?_
      refine wlm 0 1 rfl rfl rfl rfl rfl rfl rfl ?_
      refine wlo 1 2 rfl rfl rfl (wo_run rfl rfl (run_nilCheck rfl rfl) ?_)
      refine wlo 2 3 rfl rfl rfl (wo_run rfl rfl (run_fieldAddr rfl rfl Try.underlying72 rfl (ce70) (nf70)) ?_)
      refine wlo 3 4 rfl rfl rfl (wo_run rfl rfl (run_load1 rfl rfl Try.underlying70 rfl (hbx.cell S119.m rfl)) ?_)
      refine wlo 4 5 rfl rfl rfl (wo_run rfl rfl (run_len rfl rfl rfl rfl rfl rfl Try.underlying70) ?_)
      refine wlm 5 6 rfl rfl rfl rfl rfl rfl rfl ?_
      refine wl_end rfl ?_
      refine nm_sub [(2, _), (3, _), (11, _), (100, _), (101, _)] ⟨rfl, rfl, rfl, rfl, rfl, trivial⟩ ?_
      refine nm_thn ?_
      refine ws_blockN Diagram_n83 8 rfl rfl rfl ?_
      have S120 := S119.nilrow cdCr; clear S119
      refine ws_loopE (fun mx_ ax_ wx_ => ∃ (c : Nat) (vrc : Value), mx_ = n - 1 * c ∧ Env 159 [(2, .pointer (some ⟨gb1, 0, none⟩)), (3, .pointer (some ⟨gwb, 0, none⟩)), (11, .pointer (some ⟨gb9, 0, none⟩)), (100, .int .i64 (pl.length : Int)), (101, .int .i64 (c : Int))] ax_ ∧ SH wx_ M1 X [Rs.row cdCr vrc (crsW pi n c), Rs.box gb9 41 [vrc, .int .i64 lp], Rs.box gwb 80 [.pointer (some ⟨gt, 0, none⟩), .map (some gpm), var, vinn], Rs.mp (fun x => Value.agg (cdCo.f x).toArray) (Value.int .i64) gpm (pmN pl (4 * n)), Rs.row cdA4 var ((rgs pi n (2 * n)).ar.map toA4), Rs.row cdA2 vinn ((rgs pi n (2 * n)).inn.map toA2), Rs.box gb1 41 [.slice none 0 0, .int .i64 0]] ∧ c ≤ n) rfl ?_ ?_
      ·intro ax_ hax_
       refine ⟨_, ⟨0, _, rfl, hax_.sub ⟨rfl, rfl, rfl, rfl, rfl, trivial⟩, S120.pick [0, 1, 2, 3, 4, 5, 6] [_, _, _, _, _, _, _] (by decide) ⟨rfl, rfl, rfl, rfl, rfl, rfl, rfl, trivial⟩, ?hq16f0⟩⟩
       case hq16f0 => exact Nat.zero_le _
      ·rintro m10 a6 w116 ⟨c, vrc, rfl, he6, S121, hc⟩
       clear S120
       refine ws_in he6 (c := Diagram_n84) rfl ?_
       clear he6 a6
       have hin := fun h => rgs_in hp (c := c) h
       have hlen : (crsW pi n c).length = c := by unfold crsW; simp
       refine ws_seqN Diagram_n85 Diagram_n86 rfl rfl rfl ?_
       refine ws_region rfl ?_
       refine wlo 0 1 rfl rfl rfl (wo_run rfl rfl (run_lss rfl rfl rfl) ?_)
       refine wl_end rfl ?_
       refine nm_thn ?_
       refine ws_seqN Diagram_n87 Diagram_n88 rfl rfl rfl ?_
       refine ws_condN Diagram_n89 Diagram_n90 rfl rfl rfl rfl (fun hb102 => ?_) (fun hb102 => ?_)
       ·replace hb102 := of_decide_eq_true hb102
        refine ws_skip rfl ?_
        refine nm_sub [(2, _), (3, _), (11, _), (100, _), (101, _)] ⟨rfl, rfl, rfl, rfl, rfl, trivial⟩ ?_
        refine nm_thn ?_
        refine ws_seqN Diagram_n91 Diagram_n92 rfl rfl rfl ?_
        refine ws_blockN Diagram_n93 9 rfl rfl rfl ?_
        refine ws_seqN Diagram_n94 Diagram_n95 rfl rfl rfl ?_
        refine ws_region rfl ?_
        refine wlm 0 1 rfl rfl rfl rfl rfl rfl rfl ?_
        refine wla 1 2 rfl rfl rfl rfl rfl rfl rfl ?_
        refine wl_end rfl ?_
        refine nm_sub [(2, _), (3, _), (11, _), (100, _), (101, _), (12, _)] ⟨rfl, rfl, rfl, rfl, rfl, rfl, trivial⟩ ?_
        refine nm_thn ?_
        refine ws_seqN Diagram_n96 Diagram_n97 rfl rfl rfl ?_
        obtain ⟨hi0, hi1⟩ := hin (by omega)
        have hg0 := in_get hro.inn (c := (c : Int)) (p := 0) ⟨by omega, by omega⟩ (by omega)
        have hg1 := in_get hro.inn (c := (c : Int)) (p := 1) ⟨by omega, by omega⟩ (by omega)
        simp only [Int.toNat_natCast] at hg0 hg1
        change (ga ((rgs pi n (2 * n)).inn.map toA2) c).p = _ at hg0
        change (ga ((rgs pi n (2 * n)).inn.map toA2) c).q = _ at hg1
        obtain ⟨kI, hkE⟩ : ∃ kI : Nat, kI = (at2 (rgs pi n (2 * n)).inn (c : Int) 0).toNat := ⟨_, rfl⟩
        have hkI : kI < 4 := by omega
        have hk0 : (ga ((rgs pi n (2 * n)).inn.map toA2) c).p = (kI : Int) := by omega
        refine ws_region rfl ?_
        refine wlm 0 1 rfl rfl rfl rfl rfl rfl rfl ?_
        refine wlo 1 2 rfl rfl rfl (wo_run rfl rfl (run_nilCheck rfl rfl) ?_)
        refine wlo 2 3 rfl rfl rfl (wo_run rfl rfl (run_fieldAddr rfl rfl Try.underlying80 rfl (ce70) (nf70)) ?_)
        refine wlo 3 4 rfl rfl rfl (wo_run rfl rfl (run_load1 rfl rfl Try.underlying70 rfl (S121.boxc (i := 2) rfl rfl)) ?_)
        refine wlm 4 5 rfl rfl rfl rfl rfl rfl rfl ?_
        refine wlo 5 6 rfl rfl rfl (wo_run rfl rfl (run_indexR (C := cdA4) (i := 4) c rfl rfl rfl sl70 S121 rfl (by first | rfl | omega) (by first | omega | (simp only [lens]; omega))) ?_)
        refine wlo 6 7 rfl rfl rfl (wo_run rfl rfl (run_loadN (us := [_, _, _, _]) rfl rfl Try.underlying73 rfl sz73 (S121.rowcs (i := 4) (e := c) (j := 0) rfl (by first | omega | (simp only [lens]; omega)) ⟨rfl, rfl, rfl, rfl, trivial⟩)) ?_)
        refine wlo 7 8 rfl rfl rfl (wo_alloc (l := [_, _, _, _]) rfl rfl rfl zr73 rfl S121 ?_)
        intro gb10 w117 S122; clear S121
        refine wlo 8 9 rfl rfl rfl (wo_storeB (i := 0) (us := [_, _, _, _]) (l' := [_, _, _, _]) (H' := [_, _, _, _, _, _, _, _]) rfl rfl S122 rfl rfl rfl rfl sz73 rfl rfl rfl rfl ?_)
        intro w118 S123; clear S122
        refine wl_end rfl ?_
        refine nm_sub [(2, _), (3, _), (11, _), (100, _), (101, _), (12, _), (13, _)] ⟨rfl, rfl, rfl, rfl, rfl, rfl, rfl, trivial⟩ ?_
        refine nm_thn ?_
        refine ws_seqN Diagram_n98 Diagram_n99 rfl rfl rfl ?_
        refine ws_region rfl ?_
        refine wlo 0 1 rfl rfl rfl (wo_run rfl rfl (run_indexP (e := 0) (k := 1) rfl rfl rfl Try.underlying73 sz3 (by first | rfl | omega) (by first | omega | (simp only [lens]; omega))) ?_)
        refine wlo 1 2 rfl rfl rfl (wo_run rfl rfl (run_load1 rfl rfl Try.underlying3 rfl (S123.boxc (i := 0) rfl rfl)) ?_)
        refine wlo 2 3 rfl rfl rfl (wo_run rfl rfl (run_indexP (e := 1) (k := 1) rfl rfl rfl Try.underlying73 sz3 (by first | rfl | omega) (by first | omega | (simp only [lens]; omega))) ?_)
        refine wlo 3 4 rfl rfl rfl (wo_run rfl rfl (run_load1 rfl rfl Try.underlying3 rfl (S123.boxc (i := 0) rfl rfl)) ?_)
        refine wlo 4 5 rfl rfl rfl (wo_run rfl rfl (run_indexP (e := 2) (k := 1) rfl rfl rfl Try.underlying73 sz3 (by first | rfl | omega) (by first | omega | (simp only [lens]; omega))) ?_)
        refine wlo 5 6 rfl rfl rfl (wo_run rfl rfl (run_load1 rfl rfl Try.underlying3 rfl (S123.boxc (i := 0) rfl rfl)) ?_)
        refine wlo 6 7 rfl rfl rfl (wo_run rfl rfl (run_indexP (e := 3) (k := 1) rfl rfl rfl Try.underlying73 sz3 (by first | rfl | omega) (by first | omega | (simp only [lens]; omega))) ?_)
        refine wlo 7 8 rfl rfl rfl (wo_run rfl rfl (run_load1 rfl rfl Try.underlying3 rfl (S123.boxc (i := 0) rfl rfl)) ?_)
        refine wlo 8 9 rfl rfl rfl (wo_run rfl rfl (run_build (l := [_, _, _, _, _]) rfl rfl st56 rfl rfl) ?_)
        refine wlo 9 10 rfl rfl rfl (wo_alloc (l := [_, _, _, _, _]) rfl rfl rfl zr56 rfl S123 ?_)
        intro gb11 w119 S124; clear S123
        refine wlo 10 11 rfl rfl rfl (wo_storeB (i := 0) (us := [_, _, _, _, _]) (l' := [_, _, _, _, _]) (H' := [_, _, _, _, _, _, _, _, _]) rfl rfl S124 rfl rfl rfl rfl sz56 rfl rfl rfl rfl ?_)
        intro w120 S125; clear S124
        refine wl_end rfl ?_
        refine nm_sub [(2, _), (3, _), (11, _), (100, _), (101, _), (12, _), (14, _)] ⟨rfl, rfl, rfl, rfl, rfl, rfl, rfl, trivial⟩ ?_
        refine nm_thn ?_
        refine ws_seqN Diagram_n100 Diagram_n101 rfl rfl rfl ?_
        refine ws_draw rfl (by kernel_rfl) S125 11 rfl ?_
        clear S125
        refine wa_take (i := 0) (d := 120) 10 rfl (by kernel_rfl) (by kernel_rfl) (by kernel_rfl) rfl rfl rfl (fun M62 N60 w121 hle67 S126 => .inl (run_loadN (us := [_, _, _, _, _]) rfl rfl Try.underlying56 rfl sz56 (S126.suf.boxcs (i := 0) rfl ⟨rfl, rfl, rfl, rfl, rfl, trivial⟩))) ?_
        refine wa_takeP (i := 1) (d := 121) 9 rfl (by kernel_rfl) (by kernel_rfl) (by kernel_rfl) rfl rfl rfl (fun w122 => run_move rfl rfl) ?_
        refine wa_takeP (i := 2) (d := 122) 8 rfl (by kernel_rfl) (by kernel_rfl) (by kernel_rfl) rfl rfl rfl (fun w123 => run_nilCheck rfl rfl) ?_
        refine wa_takeP (i := 3) (d := 123) 7 rfl (by kernel_rfl) (by kernel_rfl) (by kernel_rfl) rfl rfl rfl (fun w124 => run_fieldAddr rfl rfl Try.underlying80 rfl (ce78) (nf78)) ?_
        refine wa_take (i := 4) (d := 124) 6 rfl (by kernel_rfl) (by kernel_rfl) (by kernel_rfl) rfl rfl rfl (fun M66 N64 w125 hle71 S130 => .inl (run_load1 rfl rfl Try.underlying78 rfl (S130.suf.boxc (i := 4) rfl rfl))) ?_
        refine wa_takeP (i := 5) (d := 125) 5 rfl (by kernel_rfl) (by kernel_rfl) (by kernel_rfl) rfl rfl rfl (fun w126 => run_move rfl rfl) ?_
        refine wa_take (i := 6) (d := 126) 4 rfl (by kernel_rfl) (by kernel_rfl) (by kernel_rfl) rfl rfl rfl (fun M68 N66 w127 hle73 S132 => .inl (run_indexR (C := cdA2) (i := 7) c rfl rfl rfl sl78 S132.suf rfl (by first | rfl | omega) (by first | omega | (simp only [lens]; omega)))) ?_
        refine wa_take (i := 7) (d := 127) 3 rfl (by kernel_rfl) (by kernel_rfl) (by kernel_rfl) rfl rfl rfl (fun M69 N67 w128 hle74 S133 => .inl (run_indexP (e := 0) (k := 1) rfl rfl rfl Try.underlying74 sz3 (by first | rfl | omega) (by first | omega | (simp only [lens]; omega)))) ?_
        refine wa_take (i := 8) (d := 128) 2 rfl (by kernel_rfl) (by kernel_rfl) (by kernel_rfl) rfl rfl rfl (fun M70 N68 w129 hle75 S134 => .inl (run_load1 rfl rfl Try.underlying3 rfl (S134.suf.rowc (i := 7) (e := c) (j := 0) rfl (by first | omega | (simp only [lens]; omega)) rfl rfl))) ?_
        rw [hk0]
        refine wa_take (i := 9) (d := 129) 1 rfl (by kernel_rfl) (by kernel_rfl) (by kernel_rfl) rfl rfl rfl (fun M71 N69 w130 hle76 S135 => yield_cq rfl rfl rfl rfl rfl cf35 S135 (Turned_q (⟨(ga ((rgs pi n (2 * n)).ar.map toA4) c).a, (ga ((rgs pi n (2 * n)).ar.map toA4) c).b, (ga ((rgs pi n (2 * n)).ar.map toA4) c).c, (ga ((rgs pi n (2 * n)).ar.map toA4) c).d, false⟩ : Cr) kI (hkI) S135.lend)) ?_
        refine wa_only (i := 10) 0 rfl (by kernel_rfl) rfl rfl (fun w132 S137 => ?_)
        refine (wo_storeB (i := 0) (us := [_, _, _, _, _]) (l' := [_, _, _, _, _]) (H' := [_, _, _, _, _, _, _, _, _]) rfl rfl S137 rfl rfl rfl rfl sz56 rfl rfl rfl rfl ?_)
        intro w133 S138; clear S137
        refine LeftW.turn (by kernel_rfl) S138 ?_; clear S138
        change WA _ _ _ _ _ _ _ _ _ _ _ _ [_, _, _, _, _, _, _, _, _]
        refine wa_end (by kernel_rfl) (fun w134 S139 => ?_)
        refine nm_sub [(2, _), (3, _), (11, _), (100, _), (101, _), (12, _), (14, _)] ⟨rfl, rfl, rfl, rfl, rfl, rfl, rfl, trivial⟩ ?_
        refine nm_thn ?_
        refine ws_seqN Diagram_n102 Diagram_n103 rfl rfl rfl ?_
        refine ws_draw rfl (by kernel_rfl) S139 22 rfl ?_
        clear S139
        refine wa_takeP (i := 0) (d := 130) 21 rfl (by kernel_rfl) (by kernel_rfl) (by kernel_rfl) rfl rfl rfl (fun w135 => run_move rfl rfl) ?_
        refine wa_takeP (i := 1) (d := 131) 20 rfl (by kernel_rfl) (by kernel_rfl) (by kernel_rfl) rfl rfl rfl (fun w136 => run_nilCheck rfl rfl) ?_
        refine wa_takeP (i := 2) (d := 132) 19 rfl (by kernel_rfl) (by kernel_rfl) (by kernel_rfl) rfl rfl rfl (fun w137 => run_fieldAddr rfl rfl Try.underlying80 rfl (ce78) (nf78)) ?_
        refine wa_take (i := 3) (d := 133) 18 rfl (by kernel_rfl) (by kernel_rfl) (by kernel_rfl) rfl rfl rfl (fun M76 N74 w138 hle81 S143 => .inl (run_load1 rfl rfl Try.underlying78 rfl (S143.suf.boxc (i := 4) rfl rfl))) ?_
        refine wa_takeP (i := 4) (d := 134) 17 rfl (by kernel_rfl) (by kernel_rfl) (by kernel_rfl) rfl rfl rfl (fun w139 => run_move rfl rfl) ?_
        refine wa_take (i := 5) (d := 135) 16 rfl (by kernel_rfl) (by kernel_rfl) (by kernel_rfl) rfl rfl rfl (fun M78 N76 w140 hle83 S145 => .inl (run_indexR (C := cdA2) (i := 7) c rfl rfl rfl sl78 S145.suf rfl (by first | rfl | omega) (by first | omega | (simp only [lens]; omega)))) ?_
        refine wa_take (i := 6) (d := 136) 15 rfl (by kernel_rfl) (by kernel_rfl) (by kernel_rfl) rfl rfl rfl (fun M79 N77 w141 hle84 S146 => .inl (run_indexP (e := 1) (k := 1) rfl rfl rfl Try.underlying74 sz3 (by first | rfl | omega) (by first | omega | (simp only [lens]; omega)))) ?_
        refine wa_take (i := 7) (d := 137) 14 rfl (by kernel_rfl) (by kernel_rfl) (by kernel_rfl) rfl rfl rfl (fun M80 N78 w142 hle85 S147 => .inl (run_load1 rfl rfl Try.underlying3 rfl (S147.suf.rowc (i := 7) (e := c) (j := 1) rfl (by first | omega | (simp only [lens]; omega)) rfl rfl))) ?_
        refine wa_takeP (i := 8) (d := 138) 13 rfl (by kernel_rfl) (by kernel_rfl) (by kernel_rfl) rfl rfl rfl (fun w143 => run_move rfl rfl) ?_
        refine wa_takeP (i := 9) (d := 139) 12 rfl (by kernel_rfl) (by kernel_rfl) (by kernel_rfl) rfl rfl rfl (fun w144 => run_nilCheck rfl rfl) ?_
        refine wa_takeP (i := 10) (d := 140) 11 rfl (by kernel_rfl) (by kernel_rfl) (by kernel_rfl) rfl rfl rfl (fun w145 => run_fieldAddr rfl rfl Try.underlying80 rfl (ce78) (nf78)) ?_
        refine wa_take (i := 11) (d := 141) 10 rfl (by kernel_rfl) (by kernel_rfl) (by kernel_rfl) rfl rfl rfl (fun M84 N82 w146 hle89 S151 => .inl (run_load1 rfl rfl Try.underlying78 rfl (S151.suf.boxc (i := 4) rfl rfl))) ?_
        refine wa_takeP (i := 12) (d := 142) 9 rfl (by kernel_rfl) (by kernel_rfl) (by kernel_rfl) rfl rfl rfl (fun w147 => run_move rfl rfl) ?_
        refine wa_take (i := 13) (d := 143) 8 rfl (by kernel_rfl) (by kernel_rfl) (by kernel_rfl) rfl rfl rfl (fun M86 N84 w148 hle91 S153 => .inl (run_indexR (C := cdA2) (i := 7) c rfl rfl rfl sl78 S153.suf rfl (by first | rfl | omega) (by first | omega | (simp only [lens]; omega)))) ?_
        refine wa_take (i := 14) (d := 144) 7 rfl (by kernel_rfl) (by kernel_rfl) (by kernel_rfl) rfl rfl rfl (fun M87 N85 w149 hle92 S154 => .inl (run_indexP (e := 0) (k := 1) rfl rfl rfl Try.underlying74 sz3 (by first | rfl | omega) (by first | omega | (simp only [lens]; omega)))) ?_
        refine wa_take (i := 15) (d := 145) 6 rfl (by kernel_rfl) (by kernel_rfl) (by kernel_rfl) rfl rfl rfl (fun M88 N86 w150 hle93 S155 => .inl (run_load1 rfl rfl Try.underlying3 rfl (S155.suf.rowc (i := 7) (e := c) (j := 0) rfl (by first | omega | (simp only [lens]; omega)) rfl rfl))) ?_
        refine wa_takeP (i := 16) (d := 146) 5 rfl (by kernel_rfl) (by kernel_rfl) (by kernel_rfl) rfl rfl rfl (fun w151 => run_sub rfl rfl rfl (by first | omega | (simp only [lens]; omega))) ?_
        refine wa_takeP (i := 17) (d := 147) 4 rfl (by kernel_rfl) (by kernel_rfl) (by kernel_rfl) rfl rfl rfl (fun w152 => run_add rfl rfl rfl (by first | omega | (simp only [lens]; omega))) ?_
        refine wa_takeP (i := 18) (d := 148) 3 rfl (by kernel_rfl) (by kernel_rfl) (by kernel_rfl) rfl rfl rfl (fun w153 => run_rem rfl rfl rfl (by first | omega | (simp only [lens]; omega))) ?_
        refine wa_takeP (i := 19) (d := 149) 2 rfl (by kernel_rfl) (by kernel_rfl) (by kernel_rfl) rfl rfl rfl (fun w154 => run_eql rfl rfl rfl) ?_
        refine wa_takeP (i := 20) (d := 150) 1 rfl (by kernel_rfl) (by kernel_rfl) (by kernel_rfl) rfl rfl rfl (fun w155 => run_fieldAddr rfl rfl Try.underlying56 rfl (ce4) (nf4)) ?_
        refine wa_only (i := 21) 0 rfl (by kernel_rfl) rfl rfl (fun w157 S162 => ?_)
        refine (wo_storeB (i := 0) (us := [_]) (l' := [_, _, _, _, _]) (H' := [_, _, _, _, _, _, _, _, _]) rfl rfl S162 rfl rfl rfl rfl sz4 rfl rfl rfl rfl ?_)
        intro w158 S163; clear S162
        refine LeftW.turn (by kernel_rfl) S163 ?_; clear S163
        change WA _ _ _ _ _ _ _ _ _ _ _ _ [_, _, _, _, _, _, _, _, _]
        refine wa_end (by kernel_rfl) (fun w159 S164 => ?_)
        refine nm_sub [(2, _), (3, _), (11, _), (100, _), (101, _), (14, _)] ⟨rfl, rfl, rfl, rfl, rfl, rfl, trivial⟩ ?_
        refine nm_thn ?_
        refine ws_region rfl ?_
        refine wlo 0 1 rfl rfl rfl (wo_run rfl rfl (run_fieldAddr rfl rfl Try.underlying41 rfl (ce39) (nf39)) ?_)
        refine wlo 1 2 rfl rfl rfl (wo_run rfl rfl (run_load1 rfl rfl Try.underlying39 rfl (S164.boxc (i := 3) rfl rfl)) ?_)
        refine wlo 2 3 rfl rfl rfl (wo_run rfl rfl (run_loadN (us := [_, _, _, _, _]) rfl rfl Try.underlying56 rfl sz56 (S164.boxcs (i := 0) rfl ⟨rfl, rfl, rfl, rfl, rfl, trivial⟩)) ?_)
        refine wlo 3 4 rfl rfl rfl (wo_buildSlice1 (C := cdCr) (l := [_, _, _, _, _]) rfl rfl rfl rfl sl39 rfl rfl rfl rfl S164 ?_)
        intro gb12 w160 S165; clear S164
        refine wlo 4 5 rfl rfl rfl (wo_append1 (C := cdCr) (i := 3) (q := 0) (⟨crArc (⟨(ga ((rgs pi n (2 * n)).ar.map toA4) c).a, (ga ((rgs pi n (2 * n)).ar.map toA4) c).b, (ga ((rgs pi n (2 * n)).ar.map toA4) c).c, (ga ((rgs pi n (2 * n)).ar.map toA4) c).d, false⟩ : Cr) ((0 + kI) % 4), crArc (⟨(ga ((rgs pi n (2 * n)).ar.map toA4) c).a, (ga ((rgs pi n (2 * n)).ar.map toA4) c).b, (ga ((rgs pi n (2 * n)).ar.map toA4) c).c, (ga ((rgs pi n (2 * n)).ar.map toA4) c).d, false⟩ : Cr) ((1 + kI) % 4), crArc (⟨(ga ((rgs pi n (2 * n)).ar.map toA4) c).a, (ga ((rgs pi n (2 * n)).ar.map toA4) c).b, (ga ((rgs pi n (2 * n)).ar.map toA4) c).c, (ga ((rgs pi n (2 * n)).ar.map toA4) c).d, false⟩ : Cr) ((2 + kI) % 4), crArc (⟨(ga ((rgs pi n (2 * n)).ar.map toA4) c).a, (ga ((rgs pi n (2 * n)).ar.map toA4) c).b, (ga ((rgs pi n (2 * n)).ar.map toA4) c).c, (ga ((rgs pi n (2 * n)).ar.map toA4) c).d, false⟩ : Cr) ((3 + kI) % 4), decide ((((((ga ((rgs pi n (2 * n)).inn.map toA2) c).q) - ((ga ((rgs pi n (2 * n)).inn.map toA2) c).p)) + 4) % 4) = 3)⟩ : Cr) rfl rfl rfl rfl rfl rfl rfl rfl sl39 S165 rfl rfl rfl (by show (_ + 1) * 40 ≤ _; first | omega | (simp only [lens]; omega)) ?_)
        intro vrc1 w161 S166; clear S165
        have S167 := S166.pick [1, 2, 3, 4, 5, 6, 7, 8, 9] [_, _, _, _, _, _, _, _, _] (by decide) ⟨rfl, rfl, rfl, rfl, rfl, rfl, rfl, rfl, rfl, trivial⟩; clear S166
        refine wlo 5 6 rfl rfl rfl (wo_run rfl rfl (run_fieldAddr rfl rfl Try.underlying41 rfl (ce39) (nf39)) ?_)
        refine wlo 6 7 rfl rfl rfl (wo_storeB (i := 3) (us := [_]) (l' := [_, _]) (H' := [_, _, _, _, _, _, _, _, _]) rfl rfl S167 rfl rfl rfl (S167.cells1 (i := 2) rfl) sz39 rfl (ones_cons (S167.one (i := 2) rfl) rfl) rfl rfl ?_)
        intro w162 S168; clear S167
        refine wl_end rfl ?_
        refine nm_blk ?_
        refine nm_sub [(2, _), (3, _), (11, _), (100, _), (101, _)] ⟨rfl, rfl, rfl, rfl, rfl, trivial⟩ ?_
        refine nm_thn ?_
        refine ws_region rfl ?_
        refine wlo 0 1 rfl rfl rfl (wo_run rfl rfl (run_add rfl rfl rfl (by first | omega | (simp only [lens]; omega))) ?_)
        refine wlm 1 2 rfl rfl rfl rfl rfl rfl rfl ?_
        refine wl_end rfl ?_
        refine nm_lp ?_
        have hrc8 : (crsW pi n c) ++ [(⟨crArc (⟨(ga ((rgs pi n (2 * n)).ar.map toA4) c).a, (ga ((rgs pi n (2 * n)).ar.map toA4) c).b, (ga ((rgs pi n (2 * n)).ar.map toA4) c).c, (ga ((rgs pi n (2 * n)).ar.map toA4) c).d, false⟩ : Cr) ((0 + kI) % 4), crArc (⟨(ga ((rgs pi n (2 * n)).ar.map toA4) c).a, (ga ((rgs pi n (2 * n)).ar.map toA4) c).b, (ga ((rgs pi n (2 * n)).ar.map toA4) c).c, (ga ((rgs pi n (2 * n)).ar.map toA4) c).d, false⟩ : Cr) ((1 + kI) % 4), crArc (⟨(ga ((rgs pi n (2 * n)).ar.map toA4) c).a, (ga ((rgs pi n (2 * n)).ar.map toA4) c).b, (ga ((rgs pi n (2 * n)).ar.map toA4) c).c, (ga ((rgs pi n (2 * n)).ar.map toA4) c).d, false⟩ : Cr) ((2 + kI) % 4), crArc (⟨(ga ((rgs pi n (2 * n)).ar.map toA4) c).a, (ga ((rgs pi n (2 * n)).ar.map toA4) c).b, (ga ((rgs pi n (2 * n)).ar.map toA4) c).c, (ga ((rgs pi n (2 * n)).ar.map toA4) c).d, false⟩ : Cr) ((3 + kI) % 4), decide ((((((ga ((rgs pi n (2 * n)).inn.map toA2) c).q) - ((ga ((rgs pi n (2 * n)).inn.map toA2) c).p)) + 4) % 4) = 3)⟩ : Cr)] = (crsW pi n (c + 1)) := (by rw [crsW_succ]; congr 1; refine congrArg (fun x => [x]) ?_; unfold crosF; rw [← hkE]; simp only [ga_map toA4 _ c (show c < (rgs pi n (2 * n)).ar.length by rw [hro.ar.1]; omega), crArc_ga _ (Nat.mod_lt _ (by decide : 4 > 0))]; congr 1; rw [hk0, hg1]; exact decide_eq_decide.2 (by omega))
        rw [hrc8] at S168; clear hrc8
        intro ax_ hax_
        refine ⟨_, ?hq17m, ⟨c + 1, _, rfl, hax_.sub ⟨rfl, rfl, rfl, rfl, rfl, trivial⟩, S168.pick [2, 3, 4, 5, 6, 7, 8] [_, _, _, _, _, _, _] (by decide) ⟨rfl, rfl, rfl, rfl, rfl, rfl, rfl, trivial⟩, ?hq17f0⟩⟩
        case hq17f0 => first | assumption | omega
        case hq17m => omega
       ·replace hb102 := of_decide_eq_false hb102
        refine ws_exit rfl rfl ?_
        refine nm_sub [(2, _), (11, _)] ⟨rfl, rfl, trivial⟩ ?_
        refine nm_thn ?_
        refine ws_seqN Diagram_n104 Diagram_n105 rfl rfl rfl ?_
        refine ws_region rfl ?_
        refine wlo 0 1 rfl rfl rfl (wo_run rfl rfl (run_loadN (us := [_, _]) rfl rfl Try.underlying41 rfl sz41 (S121.boxcs (i := 1) rfl ⟨rfl, rfl, trivial⟩)) ?_)
        refine wlo 1 2 rfl rfl rfl (wo_storeB (i := 6) (us := [_, _]) (l' := [_, _]) (H' := [_, _, _, _, _, _, _]) rfl rfl S121 rfl rfl rfl rfl sz41 rfl (ones_cons (S121.one (i := 0) rfl) (ones_cons rfl rfl)) rfl rfl ?_)
        intro w163 S169; clear S121
        refine wl_end rfl ?_
        refine nm_sub [(2, _)] ⟨rfl, trivial⟩ ?_
        refine nm_thn ?_
        obtain ⟨M95, hle100, S170, ⟨A1, c1, e1, hr1⟩⟩ := S169.pubrow (i := 0) (H' := [_, _, _, _, _, _, _]) rfl rfl (by show _ * 40 ≤ _; first | omega | (simp only [lens]; omega))
        clear S169; subst e1
        replace hbx := hbx.mono hle100
        replace hpl := hpl.mono hle100
        replace hti := hti.mono hle100
        refine ws_ret hC [_] rfl rfl ⟨⟨_, rfl, loadVarN (us := [_, _]) Try.underlying41 rfl sz41 (S170.boxcs (i := 6) rfl ⟨rfl, rfl, trivial⟩)⟩, trivial⟩ ?_
        refine ⟨_, rfl, _, hle1.trans hle100, (S170.pick [] [] (by decide) trivial), ?_⟩
        obtain rfl : c = n := by omega
        exact ⟨_, _, rfl, hr1⟩
end Go.Proofs.Ytkgofmloleicgaa
