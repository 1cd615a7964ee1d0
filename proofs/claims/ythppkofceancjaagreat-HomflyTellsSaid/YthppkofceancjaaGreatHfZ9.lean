/- Part 9 of the proof of the law HomflyTells: the walks through its functions and the plain laws that they need. -/
import Derived.Test.YthppkofceancjaaGreatHfZ8
set_option linter.unusedSimpArgs false
set_option linter.unusedVariables false
namespace Go.Proofs.YthppkofceancjaaGreat
open Go.ChangeShapes Go.WideShapes Go.ChangeAt Go.RowKit
def BldR (d : Dg) (v : Value) (N : List Rs) : Prop :=
 (arcsB d = false ∧ v = .tuple [.pointer none, .bool false].toArray ∧ N = []) ∨
 (arcsB d = true ∧ ∃ g vc vi vo, v = .tuple [.pointer (some ⟨g, 0, none⟩), .bool true].toArray ∧
  N = [Rs.box g 70 [vc, .int .i64 d.loops, vi, vo], Rs.row cdCr vc d.crs, Rs.row cdPl vi (tabL d false (4 * d.crs.length)), Rs.row cdPl vo (tabL d true (4 * d.crs.length))] ∧ ShV d vi vo)
theorem Build_o {w : World} {M : Hp} {X : Fr} (d : Dg) (hn : d.crs.length ≤ 16) {A : Option Addr} {c : Nat} (h : RdA cdCr (M.un X.h) A c d.crs) (S : SH w M X []) : Co Tryz.prog 83 [.agg [.slice A d.crs.length c, .int .i64 d.loops].toArray] w M X (BldR d) := by
 refine (build_any _ d w (h.dg S.um) hn).mono ?_
 rintro e w' (⟨hm, rfl, hk⟩ | ⟨hm, v, rfl, hk, g, B, cp, gi, go, rfl, hg, hne, hb, hc, hi, ho⟩)
 ·exact ⟨_, rfl, [], S.old hk, .inl ⟨hm, rfl, rfl⟩⟩
 ·have hci := hc.ne_ hi (by decide)
  have hco := hc.ne_ ho (by decide)
  have hcb := hc.ne_blk hb (by decide)
  have hib := hi.ne_blk hb (by decide)
  have hob := ho.ne_blk hb (by decide)
  have S0 := S.old hk
  have S1 : SH w' M X [Rs.row cdPl (.slice (some ⟨go, 0, none⟩) (2 * d.crs.length + 1) (2 * d.crs.length + 1)) (tabL d true (4 * d.crs.length))] :=
   S.adopt S0 (RowOk.of_owns (C := cdPl) (ho.base (Nat.zero_le _))) (fun b hb => ho.lt b (bl_row hb)) (by simp)
  have S2 := S.adopt S1 (r := Rs.row cdPl (.slice (some ⟨gi, 0, none⟩) (2 * d.crs.length + 1) (2 * d.crs.length + 1)) (tabL d false (4 * d.crs.length)))
   (RowOk.of_owns (C := cdPl) (hi.base (Nat.zero_le _))) (fun b hb => hi.lt b (bl_row hb)) (fun s hs b hb hbs => by
    rw [List.mem_singleton] at hs
    subst hs
    have h1 := bl_row hb
    have h2 := bl_row hbs
    simp only [Value.ownBlock, Option.some.injEq] at h1 h2
    omega)
  have S3 := S.adopt S2 (r := Rs.row cdCr (.slice B d.crs.length cp) d.crs) (RowOk.of_owns (C := cdCr) (hc.base (Nat.zero_le _))) (fun b hb => hc.lt b (bl_row hb)) (fun s hs b hb hbs => by
    have h1 := bl_row hb
    rcases List.mem_cons.1 hs with rfl | hs
    ·rcases hci with h | h
     ·rw [h] at h1; cases h1
     ·exact h (h1.trans (bl_row hbs).symm)
    ·rw [List.mem_singleton] at hs
     subst hs
     rcases hco with h | h
     ·rw [h] at h1; cases h1
     ·exact h (h1.trans (bl_row hbs).symm))
  have S4 := S.adopt S3 (r := Rs.box g 70 [.slice B d.crs.length cp, .int .i64 d.loops, .slice (some ⟨gi, 0, none⟩) (2 * d.crs.length + 1) (2 * d.crs.length + 1), .slice (some ⟨go, 0, none⟩) (2 * d.crs.length + 1) (2 * d.crs.length + 1)])
   hb (fun b hb' => by simp [Rs.box] at hb'; subst hb'; exact ⟨hg, hb.lt⟩) (fun s hs b hb' hbs => by
    simp [Rs.box] at hb'
    subst hb'
    rcases List.mem_cons.1 hs with rfl | hs
    ·rcases hcb with h | h
     ·have := bl_row hbs; rw [h] at this; cases this
     ·exact h (bl_row hbs)
    ·rcases List.mem_cons.1 hs with rfl | hs
     ·rcases hib with h | h
      ·have := bl_row hbs; rw [h] at this; cases this
      ·exact h (bl_row hbs)
     ·rw [List.mem_singleton] at hs
      subst hs
      rcases hob with h | h
      ·have := bl_row hbs; rw [h] at this; cases this
      ·exact h (bl_row hbs))
  exact ⟨_, rfl, _, S4, .inr ⟨hm, g, _, _, _, rfl, rfl, gi, go, rfl, rfl, hne⟩⟩
def BldT (d : Dg) (v : Value) (N : Hp) : Prop :=
 (arcsB d = false ∧ v = .tuple [.pointer none, .bool false].toArray) ∨
 (arcsB d = true ∧ ∃ g cA iA oA cc ic oc, v = .tuple [.pointer (some ⟨g, 0, none⟩), .bool true].toArray ∧ ShM N d g cA iA oA cc ic oc)
theorem Build_t {w : World} {M : Hp} {X : Fr} (d : Dg) (hn : d.crs.length ≤ 16) {A : Option Addr} {c : Nat} (h : RdA cdCr (M.un X.h) A c d.crs) (S : SH w M X []) : Ct Tryz.prog 83 [.agg [.slice A d.crs.length c, .int .i64 d.loops].toArray] w M X (BldT d) := by
 refine (Build_o d hn h S).mono ?_
 rintro e w' ⟨v, rfl, N, S1, ⟨hm, rfl, rfl⟩ | ⟨hm, g, vc, vi, vo, rfl, rfl, hv⟩⟩
 ·exact ⟨_, rfl, M, Hp.le_refl _, S1, .inl ⟨hm, rfl⟩⟩
 ·have t1 := tabL_len d false (4 * d.crs.length)
  have t2 := tabL_len d true (4 * d.crs.length)
  clear hv
  obtain ⟨M1, l1, S2, ⟨cA, cc, rfl, r1⟩⟩ := S1.pubrow (i := 1) rfl rfl (by show _ * 40 ≤ _; omega)
  obtain ⟨M2, l2, S3, ⟨iA, ic, rfl, r2⟩⟩ := S2.pubrow (C := cdPl) (xs := tabL d false (4 * d.crs.length)) (i := 2) rfl rfl (by show _ * 16 ≤ _; omega)
  obtain ⟨M3, l3, S4, ⟨oA, oc, rfl, r3⟩⟩ := S3.pubrow (C := cdPl) (xs := tabL d true (4 * d.crs.length)) (i := 3) rfl rfl (by show _ * 16 ≤ _; omega)
  obtain ⟨M4, l4, S5, b⟩ := S4.pubBx (i := 0) rfl rfl
  exact ⟨_, rfl, M4, (l1.trans l2).trans (l3.trans l4), S5.pick [] [] (by decide) trivial, .inr ⟨hm, g, cA, iA, oA, cc, ic, oc, rfl, b, ((r1.mono l2).mono l3).mono l4, (r2.mono l3).mono l4, r3.mono l4⟩⟩
/-- What is still to be visited from strand i on; from place k of strand i on. -/
def rest0 (d : Dg) (i : Nat) : List (Nat × Nat) := ((strandsL d).drop i).flatten.map fun a => endOf d a false
def restV (d : Dg) (i k : Nat) : List (Nat × Nat) := ((ga (strandsL d) i).drop k ++ ((strandsL d).drop (i + 1)).flatten).map fun a => endOf d a false
theorem rest0_go {d : Dg} {i : Nat} (h : i < (strandsL d).length) : rest0 d i = restV d i 0 := by
 unfold rest0 restV
 rw [List.drop_eq_getElem_cons h, List.flatten_cons, List.drop_zero, ga_eq h]
theorem rest0_end {d : Dg} {i : Nat} (h : (strandsL d).length ≤ i) : rest0 d i = [] := by
 unfold rest0
 rw [List.drop_eq_nil_of_le h]; rfl
theorem restV_go {d : Dg} {i k : Nat} (h : k < (ga (strandsL d) i).length) : restV d i k = endOf d (ga (ga (strandsL d) i) k) false :: restV d i (k + 1) := by
 unfold restV
 rw [List.drop_eq_getElem_cons h, List.cons_append, List.map_cons, ga_eq h]
theorem restV_end {d : Dg} {i k : Nat} (h : (ga (strandsL d) i).length ≤ k) : restV d i k = rest0 d (i + 1) := by
 unfold restV rest0
 rw [List.drop_eq_nil_of_le h, List.nil_append]
def SeenOk (es : List (Int × Bool)) (sn : List Nat) : Prop := ∀ n : Nat, (mg (n : Int) es).getD false = decide (n ∈ sn)
theorem SeenOk.nil_ : SeenOk [] [] := fun n => by simp [mg]
theorem SeenOk.put {es : List (Int × Bool)} {sn : List Nat} (h : SeenOk es sn) (k : Nat) : SeenOk (mp (k : Int) true es) (k :: sn) := fun n => by
 rw [mg_mp]
 by_cases e : n = k
 ·rw [if_pos (by rw [e]), e]; simp
 ·rw [if_neg (by omega), h n]; simp [e]
theorem fb_hit {d : Dg} {i k : Nat} {sn : List Nat} (h : low d = fbF sn (restV d i k)) (hk : k < (ga (strandsL d) i).length) (h1 : (endOf d (ga (ga (strandsL d) i) k) false).1 ∉ sn) (h2 : (endOf d (ga (ga (strandsL d) i) k) false).2 = 0) : low d = ((endOf d (ga (ga (strandsL d) i) k) false).1 : Int) := by
 rw [h, restV_go hk, fbF, if_pos ⟨h1, h2⟩]
theorem fb_go {d : Dg} {i k : Nat} {sn : List Nat} (h : low d = fbF sn (restV d i k)) (hk : k < (ga (strandsL d) i).length) (h1 : ¬ ((endOf d (ga (ga (strandsL d) i) k) false).1 ∉ sn ∧ (endOf d (ga (ga (strandsL d) i) k) false).2 = 0)) : low d = fbF ((endOf d (ga (ga (strandsL d) i) k) false).1 :: sn) (restV d i (k + 1)) := by
 rw [h, restV_go hk, fbF, if_neg h1]
noncomputable def lowH_n0 : Code := Tryz.f84.body.getD .skip
noncomputable def lowH_n1 : Code := cL lowH_n0
noncomputable def lowH_n2 : Code := cR lowH_n0
noncomputable def lowH_n3 : Code := cL lowH_n2
noncomputable def lowH_n4 : Code := cR lowH_n2
noncomputable def lowH_n5 : Code := cL lowH_n4
noncomputable def lowH_n6 : Code := cR lowH_n4
noncomputable def lowH_n7 : Code := cL lowH_n6
noncomputable def lowH_n8 : Code := cR lowH_n6
noncomputable def lowH_n9 : Code := cL lowH_n7
noncomputable def lowH_n10 : Code := cR lowH_n7
noncomputable def lowH_n11 : Code := cL lowH_n10
noncomputable def lowH_n12 : Code := cL lowH_n11
noncomputable def lowH_n13 : Code := cL lowH_n12
noncomputable def lowH_n14 : Code := cR lowH_n12
noncomputable def lowH_n15 : Code := cL lowH_n14
noncomputable def lowH_n16 : Code := cR lowH_n14
noncomputable def lowH_n17 : Code := cL lowH_n15
noncomputable def lowH_n18 : Code := cR lowH_n15
noncomputable def lowH_n19 : Code := cL lowH_n16
noncomputable def lowH_n20 : Code := cR lowH_n16
noncomputable def lowH_n21 : Code := cL lowH_n19
noncomputable def lowH_n22 : Code := cL lowH_n21
noncomputable def lowH_n23 : Code := cR lowH_n21
noncomputable def lowH_n24 : Code := cL lowH_n23
noncomputable def lowH_n25 : Code := cR lowH_n23
noncomputable def lowH_n26 : Code := cL lowH_n25
noncomputable def lowH_n27 : Code := cL lowH_n26
noncomputable def lowH_n28 : Code := cL lowH_n27
noncomputable def lowH_n29 : Code := cR lowH_n27
noncomputable def lowH_n30 : Code := cL lowH_n29
noncomputable def lowH_n31 : Code := cR lowH_n29
noncomputable def lowH_n32 : Code := cL lowH_n30
noncomputable def lowH_n33 : Code := cR lowH_n30
noncomputable def lowH_n34 : Code := cL lowH_n31
noncomputable def lowH_n35 : Code := cR lowH_n31
noncomputable def lowH_n36 : Code := cL lowH_n34
noncomputable def lowH_n37 : Code := cL lowH_n36
noncomputable def lowH_n38 : Code := cR lowH_n36
noncomputable def lowH_n39 : Code := cL lowH_n38
noncomputable def lowH_n40 : Code := cR lowH_n38
noncomputable def lowH_n41 : Code := cL lowH_n40
noncomputable def lowH_n42 : Code := cR lowH_n40
noncomputable def lowH_n43 : Code := cL lowH_n41
noncomputable def lowH_n44 : Code := cR lowH_n41
noncomputable def lowH_n45 : Code := cL lowH_n44
noncomputable def lowH_n46 : Code := cR lowH_n44
noncomputable def lowH_n47 : Code := cL lowH_n45
noncomputable def lowH_n48 : Code := cR lowH_n45
noncomputable def lowH_n49 : Code := cL lowH_n8
noncomputable def lowH_n50 : Code := cR lowH_n8
set_option maxHeartbeats 1000000 in
set_option maxRecDepth 10000 in
theorem lowH_t {w : World} {M : Hp} {X : Fr} (d : Dg) {gsh : Nat} {cA iA oA : Option Addr} {cc ic oc : Nat} (hsb : BxM (M.un X.h) gsh 70 [.slice cA d.crs.length cc, .int .i64 d.loops, .slice iA (tabL d false (4 * d.crs.length)).length ic, .slice oA (tabL d true (4 * d.crs.length)).length oc]) (hsc : RdA cdCr (M.un X.h) cA cc d.crs) (hsi : RdA cdPl (M.un X.h) iA ic (tabL d false (4 * d.crs.length))) (hso : RdA cdPl (M.un X.h) oA oc (tabL d true (4 * d.crs.length))) (hn : d.crs.length ≤ 16) (hab : arcsB d = true) (S : SH w M X []) : Ct Tryz.prog 84 [.pointer (some ⟨gsh, 0, none⟩)] w M X (fun u _ => u = .tuple [.int .i64 (low d), .int .i64 ((strandsL d).length : Int)].toArray) := by
 unfold Ct
 have hsl9 := strands_le d (2 * d.crs.length)
 replace hsl9 : (strandsL d).length ≤ 2 * d.crs.length := hsl9
 refine calls_in (b := lowH_n0) Tryz.func84 rfl Tryz.ntmps84 rfl (fun C hC => (ws_sub [(0, _)] ⟨rfl, trivial⟩ (ws_seqN lowH_n1 lowH_n2 rfl rfl rfl (ws_region rfl (wla 0 1 rfl rfl rfl rfl rfl rfl rfl (wla 1 2 rfl rfl rfl rfl rfl rfl rfl (wl_end rfl (nmk [0] rfl (nm_thn ?_)))))))))
 refine ws_seqN lowH_n3 lowH_n4 rfl rfl rfl (ws_region rfl (wlo 0 1 rfl rfl rfl (wo_makeMap Int Bool (Value.int .i64) Value.bool rfl rfl rfl S ?_)))
 intro gm1 w1 S1; clear S
 refine wla 1 2 rfl rfl rfl rfl rfl rfl rfl (wl_end rfl (nmk [0, 4] rfl (nm_thn (ws_seqN lowH_n5 lowH_n6 rfl rfl rfl (ws_region rfl (wlm 0 1 rfl rfl rfl rfl rfl rfl rfl (wlo 1 2 rfl rfl rfl (wo_ct rfl rfl rfl rfl rfl rfl rfl cf134 S1 (Strands_t d (hsb.mono S1.un_XH) (hsc.mono S1.un_XH) (hsi.mono S1.un_XH) (hso.mono S1.un_XH) hn hab S1.lend) ?_))))))))
 intro vw2 w2 M1 hle1 S2 hRw2; clear S1
 replace hsb := hsb.mono (Hp.un_mono hle1 S2.mx)
 replace hsc := hsc.mono (Hp.un_mono hle1 S2.mx)
 replace hsi := hsi.mono (Hp.un_mono hle1 S2.mx)
 replace hso := hso.mono (Hp.un_mono hle1 S2.mx)
 obtain ⟨A1, c1, vs1, rfl, hr1, hd1⟩ := hRw2
 have hlenstrandsL := hd1.1
 refine wla 2 3 rfl rfl rfl rfl rfl rfl rfl (wl_end rfl (nmk [0, 4, 5] rfl (nm_thn (ws_seqN lowH_n7 lowH_n8 rfl rfl rfl (ws_seqN lowH_n9 lowH_n10 rfl rfl rfl (ws_region rfl (wlm 0 1 rfl rfl rfl rfl rfl rfl rfl (wlo 1 2 rfl rfl rfl (wo_run rfl rfl (run_len rfl rfl rfl rfl rfl rfl Tryz.underlying103) ?_)))))))))
 refine wlm 2 3 rfl rfl rfl rfl rfl rfl rfl (wl_end rfl (nm_thn (ws_blockN lowH_n11 0 rfl rfl rfl ?_)))
 refine ws_loopE (fun mx_ ax_ wx_ => ∃ (i : Nat) (sn : List Nat) (es : List (Int × Bool)), mx_ = (strandsL d).length - i ∧ Env 54 [(0, .pointer (some ⟨gsh, 0, none⟩)), (4, .map (some gm1)), (5, .slice A1 vs1.length c1), (14, .slice A1 vs1.length c1), (15, .int .i64 (vs1.length : Int)), (16, .int .i64 (i : Int))] ax_ ∧ SH wx_ M1 X [Rs.mp (Value.int .i64) Value.bool gm1 es] ∧ i ≤ (strandsL d).length ∧ low d = fbF sn (rest0 d i) ∧ SeenOk es sn) rfl ?_ ?_
 ·intro ax_ hax_
  refine ⟨_, ⟨0, [], [], rfl, hax_.sub ⟨rfl, rfl, rfl, rfl, rfl, rfl, trivial⟩, S2.pick [0] [_] (by decide) ⟨rfl, trivial⟩, ?hq1f0, ?hq1f1, ?hq1f2⟩⟩
  case hq1f0 => omega
  case hq1f1 => rfl
  case hq1f2 => exact SeenOk.nil_
 ·rintro m2 a1 w3 ⟨i, sn, es, rfl, he1, S3, hi, hf, hse⟩
  clear S2
  refine ws_in he1 (c := lowH_n12) rfl ?_
  clear he1 a1
  refine ws_seqN lowH_n13 lowH_n14 rfl rfl rfl (ws_region rfl (wlo 0 1 rfl rfl rfl (wo_run rfl rfl (run_lss rfl rfl rfl) (wl_end rfl (nm_thn (ws_seqN lowH_n15 lowH_n16 rfl rfl rfl ?_))))))
  refine ws_condN lowH_n17 lowH_n18 rfl rfl rfl rfl (fun hb17 => ?_) (fun hb17 => ?_)
  ·replace hb17 := of_decide_eq_true hb17
   refine ws_skip rfl (nmk [0, 4, 5, 14, 15, 16] rfl (nm_thn (ws_seqN lowH_n19 lowH_n20 rfl rfl rfl (ws_blockN lowH_n21 1 rfl rfl rfl (ws_seqN lowH_n22 lowH_n23 rfl rfl rfl (ws_region rfl (wlo 0 1 rfl rfl rfl (wo_run rfl rfl (run_indexM (C := (cdV 53)) i rfl rfl rfl sl103 (by first | rfl | omega) hr1 (by first | omega | (simp only [lens]; omega))) ?_))))))))
   obtain ⟨hn1, hr2⟩ := hd1.2 i (by first | omega | (simp only [lens]; omega))
   have rmhr2 : (ga (strandsL d) i).length * 8 ≤ 140737488355328 := hr2.room
   refine wlo 1 2 rfl rfl rfl (wo_run rfl rfl (run_load1 rfl rfl Tryz.underlying53 rfl (hr1.cell S3.m (i := i) (by first | omega | (simp only [lens]; omega)) 0 rfl (congrArg (fun n => some (Value.slice _ n _)) hn1))) ?_)
   refine wla 2 3 rfl rfl rfl rfl rfl rfl rfl (wl_end rfl (nmk [0, 4, 5, 14, 15, 16, 7] rfl (nm_thn (ws_seqN lowH_n24 lowH_n25 rfl rfl rfl (ws_region rfl (wlm 0 1 rfl rfl rfl rfl rfl rfl rfl (wlo 1 2 rfl rfl rfl (wo_run rfl rfl (run_len rfl rfl rfl rfl rfl rfl Tryz.underlying53) (wlm 2 3 rfl rfl rfl rfl rfl rfl rfl ?_)))))))))
   refine wl_end rfl (nmk [0, 4, 5, 14, 15, 16, 20, 21, 22] rfl (nm_thn (ws_blockN lowH_n26 2 rfl rfl rfl ?_)))
   refine ws_loopE (fun mx_ ax_ wx_ => ∃ (k : Nat) (sn2 : List Nat) (es2 : List (Int × Bool)), mx_ = (ga (strandsL d) i).length - k ∧ Env 54 [(0, .pointer (some ⟨gsh, 0, none⟩)), (4, .map (some gm1)), (5, .slice A1 vs1.length c1), (14, .slice A1 vs1.length c1), (15, .int .i64 (vs1.length : Int)), (16, .int .i64 (i : Int)), (20, .slice ((ga vs1 i).A) (ga (strandsL d) i).length ((ga vs1 i).c)), (21, .int .i64 ((ga (strandsL d) i).length : Int)), (22, .int .i64 (k : Int))] ax_ ∧ SH wx_ M1 X [Rs.mp (Value.int .i64) Value.bool gm1 es2] ∧ k ≤ (ga (strandsL d) i).length ∧ low d = fbF sn2 (restV d i k) ∧ SeenOk es2 sn2) rfl ?_ ?_
   ·intro ax_ hax_
    refine ⟨_, ⟨0, sn, es, rfl, hax_.sub ⟨rfl, rfl, rfl, rfl, rfl, rfl, rfl, rfl, rfl, trivial⟩, S3.pick [0] [_] (by decide) ⟨rfl, trivial⟩, ?hq2f0, ?hq2f1, ?hq2f2⟩⟩
    case hq2f0 => omega
    case hq2f1 => (rw [hf, rest0_go (by omega)])
    case hq2f2 => exact hse
   ·rintro m3 a2 w4 ⟨k, sn2, es2, rfl, he2, S4, hk, hf2, hse2⟩
    clear S3
    refine ws_in he2 (c := lowH_n27) rfl ?_
    clear he2 a2
    refine ws_seqN lowH_n28 lowH_n29 rfl rfl rfl (ws_region rfl (wlo 0 1 rfl rfl rfl (wo_run rfl rfl (run_lss rfl rfl rfl) (wl_end rfl (nm_thn (ws_seqN lowH_n30 lowH_n31 rfl rfl rfl ?_))))))
    refine ws_condN lowH_n32 lowH_n33 rfl rfl rfl rfl (fun hb23 => ?_) (fun hb23 => ?_)
    ·replace hb23 := of_decide_eq_true hb23
     refine ws_skip rfl (nmk [0, 4, 5, 14, 15, 16, 20, 21, 22] rfl (nm_thn (ws_seqN lowH_n34 lowH_n35 rfl rfl rfl (ws_blockN lowH_n36 3 rfl rfl rfl (ws_seqN lowH_n37 lowH_n38 rfl rfl rfl (ws_region rfl (wlo 0 1 rfl rfl rfl (wo_run rfl rfl (run_indexM (C := cdInt) k rfl rfl rfl sl53 (by first | rfl | omega) hr2 (by first | omega | (simp only [lens]; omega))) ?_))))))))
     refine wlo 1 2 rfl rfl rfl (wo_run rfl rfl (run_load1 rfl rfl Tryz.underlying3 rfl (hr2.cell S4.m (i := k) (by first | omega | (simp only [lens]; omega)) 0 rfl rfl)) ?_)
     refine wla 2 3 rfl rfl rfl rfl rfl rfl rfl (wl_end rfl (nmk [0, 4, 5, 14, 15, 16, 20, 21, 22, 9] rfl (nm_thn (ws_seqN lowH_n39 lowH_n40 rfl rfl rfl ?_))))
     have hx := strands_rng hab (show i < _ by omega) (ga (ga (strandsL d) i) k) (ga_mem (by omega))
     obtain ⟨hE1, hE2, hE3, hE4, hE5⟩ := endD hab (a := (ga (ga (strandsL d) i) k)) (by omega) false
     have htf := tabL_len d false (4 * d.crs.length)
     have hx1 := hx.1
     have hx2 := hx.2
     refine ws_region rfl (wlm 0 1 rfl rfl rfl rfl rfl rfl rfl (wlo 1 2 rfl rfl rfl (wo_run rfl rfl (run_nilCheck rfl rfl) (wlo 2 3 rfl rfl rfl (wo_run rfl rfl (run_fieldAddr rfl rfl Tryz.underlying70 rfl (ce68) (nf68)) (wlo 3 4 rfl rfl rfl (wo_run rfl rfl (run_load1 rfl rfl Tryz.underlying68 rfl (hsb.cell S4.um rfl)) (wlm 4 5 rfl rfl rfl rfl rfl rfl rfl (wlo 5 6 rfl rfl rfl (wo_run rfl rfl (run_indexM (C := cdPl) ((ga (ga (strandsL d) i) k).toNat) rfl rfl rfl sl68 (by first | rfl | omega) hsi (by first | omega | (simp only [lens]; omega))) ?_))))))))))
     refine wlo 6 7 rfl rfl rfl (wo_run rfl rfl (run_loadN (us := [_, _]) rfl rfl Tryz.underlying190 rfl sz190 (hsi.cellsAt S4.um (e := (ga (ga (strandsL d) i) k).toNat) (by first | omega | (simp only [lens]; omega)) (j := 0) ⟨rfl, rfl, trivial⟩)) ?_)
     refine wlo 7 8 rfl rfl rfl (wo_alloc (l := [_, _]) rfl rfl rfl zr190 rfl S4 ?_)
     intro gb1 w5 S5; clear S4
     refine wlo 8 9 rfl rfl rfl (wo_storeB (i := 0) (us := [_, _]) (l' := [_, _]) (H' := [_, _]) rfl rfl S5 rfl rfl rfl rfl sz190 rfl rfl rfl rfl ?_)
     intro w6 S6; clear S5
     refine wl_end rfl (nmk [0, 4, 5, 14, 15, 16, 20, 21, 22, 10] rfl (nm_thn (ws_seqN lowH_n41 lowH_n42 rfl rfl rfl (ws_seqN lowH_n43 lowH_n44 rfl rfl rfl ?_))))
     rw [hE3] at S6
     have hsn := hse2 (endOf d (ga (ga (strandsL d) i) k) false).1
     refine ws_region rfl (wlm 0 1 rfl rfl rfl rfl rfl rfl rfl (wlo 1 2 rfl rfl rfl (wo_run rfl rfl (run_fieldAddr rfl rfl Tryz.underlying190 rfl (ce3) (nf3)) (wlo 2 3 rfl rfl rfl (wo_run rfl rfl (run_load1 rfl rfl Tryz.underlying3 rfl (S6.boxc (i := 0) rfl rfl)) (wlo 3 4 rfl rfl rfl (wo_run rfl rfl (run_lookup (kc := Value.int .i64) (vc := Value.bool) (es := es2) (k := ((endOf d (ga (ga (strandsL d) i) k) false).1 : Int)) (zv := false) (i := 1) rfl rfl rfl Tryz.underlying180 mk3 zr4 S6 rfl) (wlo 4 5 rfl rfl rfl (wo_run rfl rfl (run_not rfl rfl) (wlm 5 6 rfl rfl rfl rfl rfl rfl rfl ?_))))))))))
     refine wl_split (t := 38) rfl (fun hg38 => ?_) (fun hg38 => ?_)
     ·simp only [Bool.and_eq_true, Bool.or_eq_true, Bool.and_eq_false_iff, Bool.or_eq_false_iff, decide_eq_true_eq, decide_eq_false_iff_not, Bool.not_eq_true', Bool.not_eq_false'] at hg38
      refine wlg 6 7 rfl rfl rfl rfl rfl rfl rfl rfl (wo_run rfl rfl (run_fieldAddr rfl rfl Tryz.underlying190 rfl (ce3) (nf3)) (wlg 7 8 rfl rfl rfl rfl rfl rfl rfl rfl (wo_run rfl rfl (run_load1 rfl rfl Tryz.underlying3 rfl (S6.boxc (i := 0) rfl rfl)) (wlg 8 9 rfl rfl rfl rfl rfl rfl rfl rfl (wo_run rfl rfl (run_eql rfl rfl rfl) (wlo 9 10 rfl rfl rfl (wo_run rfl rfl (run_pickT rfl rfl rfl) (wl_end rfl (nmk [0, 4, 5, 14, 15, 16, 20, 21, 22, 10, 42] rfl (nm_thn ?_))))))))))
      refine ws_condN lowH_n45 lowH_n46 rfl rfl rfl rfl (fun hb42 => ?_) (fun hb42 => ?_)
      ·replace hb42 := of_decide_eq_true hb42
       refine ws_seqN lowH_n47 lowH_n48 rfl rfl rfl (ws_region rfl (wlo 0 1 rfl rfl rfl (wo_run rfl rfl (run_fieldAddr rfl rfl Tryz.underlying190 rfl (ce3) (nf3)) (wlo 1 2 rfl rfl rfl (wo_run rfl rfl (run_load1 rfl rfl Tryz.underlying3 rfl (S6.boxc (i := 0) rfl rfl)) (wlm 2 3 rfl rfl rfl rfl rfl rfl rfl (wlo 3 4 rfl rfl rfl (wo_run rfl rfl (run_len rfl rfl rfl rfl rfl rfl Tryz.underlying103) (wla 4 5 rfl rfl rfl rfl rfl rfl rfl (wla 5 6 rfl rfl rfl rfl rfl rfl rfl (wl_end rfl ?_)))))))))))
       refine nmk [2, 3] rfl (nm_thn (ws_ret hC [_, _] rfl rfl ⟨rfl, rfl, trivial⟩ ?_))
       refine ⟨_, rfl, _, hle1, (S6.pick [] [] (by decide) trivial), ?_⟩
       rw [hlenstrandsL]
       have e9 := fb_hit hf2 (by omega) (by rw [hsn] at hg38; simpa only [Bool.not_eq_true', decide_eq_true_eq, decide_eq_false_iff_not, Bool.not_eq_false', Bool.not_eq_true, Bool.not_eq_false] using hg38) (by omega)
       rw [e9]; rfl
      ·replace hb42 := of_decide_eq_false hb42
       refine ws_skip rfl (nmk [0, 4, 5, 14, 15, 16, 20, 21, 22, 10] rfl (nm_thn (ws_region rfl (wlm 0 1 rfl rfl rfl rfl rfl rfl rfl (wlo 1 2 rfl rfl rfl (wo_run rfl rfl (run_fieldAddr rfl rfl Tryz.underlying190 rfl (ce3) (nf3)) (wlo 2 3 rfl rfl rfl (wo_run rfl rfl (run_load1 rfl rfl Tryz.underlying3 rfl (S6.boxc (i := 0) rfl rfl)) (wlo 3 4 rfl rfl rfl (wo_mapUpdate (kc := Value.int .i64) (vc := Value.bool) (es := es2) (k := ((endOf d (ga (ga (strandsL d) i) k) false).1 : Int)) (e := true) (i := 1) (H' := [_, _]) (.inl rfl) rfl S6 rfl rfl rfl rfl Tryz.underlying180 mk3 rfl ?_))))))))))
       intro w7 S7; clear S6
       refine wl_end rfl (nm_blk (nmk [0, 4, 5, 14, 15, 16, 20, 21, 22] rfl (nm_thn (ws_region rfl (wlo 0 1 rfl rfl rfl (wo_run rfl rfl (run_add rfl rfl rfl (by first | omega | (simp only [lens]; omega))) ?_))))))
       refine wlm 1 2 rfl rfl rfl rfl rfl rfl rfl (wl_end rfl (nm_lp ?_))
       intro ax_ hax_
       refine ⟨_, ?hq3m, ⟨k + 1, (endOf d (ga (ga (strandsL d) i) k) false).1 :: sn2, mp ((endOf d (ga (ga (strandsL d) i) k) false).1 : Int) true es2, rfl, hax_.sub ⟨rfl, rfl, rfl, rfl, rfl, rfl, rfl, rfl, rfl, trivial⟩, S7.pick [1] [_] (by decide) ⟨rfl, trivial⟩, ?hq3f0, ?hq3f1, ?hq3f2⟩⟩
       case hq3f0 => omega
       case hq3f1 => (refine fb_go hf2 (by omega) ?_; rintro ⟨h1, h2⟩; first | omega | (rw [hsn] at hg38; simp only [Bool.not_eq_true', decide_eq_true_eq, decide_eq_false_iff_not, Decidable.not_not, Bool.not_eq_false', Bool.not_eq_true, Bool.not_eq_false] at hg38; exact h1 hg38))
       case hq3f2 => exact hse2.put _
       case hq3m => omega
     ·simp only [Bool.and_eq_true, Bool.or_eq_true, Bool.and_eq_false_iff, Bool.or_eq_false_iff, decide_eq_true_eq, decide_eq_false_iff_not, Bool.not_eq_true', Bool.not_eq_false'] at hg38
      refine wln 6 7 rfl rfl rfl rfl rfl rfl rfl rfl rfl (wln 7 8 rfl rfl rfl rfl rfl rfl rfl rfl rfl (wln 8 9 rfl rfl rfl rfl rfl rfl rfl rfl rfl (wlo 9 10 rfl rfl rfl (wo_run rfl rfl (run_pickF rfl rfl rfl) (wl_end rfl (nmk [0, 4, 5, 14, 15, 16, 20, 21, 22, 10, 42] rfl (nm_thn (ws_condFN lowH_n46 rfl rfl rfl (ws_skip rfl ?_)))))))))
      refine nmk [0, 4, 5, 14, 15, 16, 20, 21, 22, 10] rfl (nm_thn (ws_region rfl (wlm 0 1 rfl rfl rfl rfl rfl rfl rfl (wlo 1 2 rfl rfl rfl (wo_run rfl rfl (run_fieldAddr rfl rfl Tryz.underlying190 rfl (ce3) (nf3)) (wlo 2 3 rfl rfl rfl (wo_run rfl rfl (run_load1 rfl rfl Tryz.underlying3 rfl (S6.boxc (i := 0) rfl rfl)) (wlo 3 4 rfl rfl rfl (wo_mapUpdate (kc := Value.int .i64) (vc := Value.bool) (es := es2) (k := ((endOf d (ga (ga (strandsL d) i) k) false).1 : Int)) (e := true) (i := 1) (H' := [_, _]) (.inl rfl) rfl S6 rfl rfl rfl rfl Tryz.underlying180 mk3 rfl ?_)))))))))
      intro w8 S8; clear S6
      refine wl_end rfl (nm_blk (nmk [0, 4, 5, 14, 15, 16, 20, 21, 22] rfl (nm_thn (ws_region rfl (wlo 0 1 rfl rfl rfl (wo_run rfl rfl (run_add rfl rfl rfl (by first | omega | (simp only [lens]; omega))) ?_))))))
      refine wlm 1 2 rfl rfl rfl rfl rfl rfl rfl (wl_end rfl (nm_lp ?_))
      intro ax_ hax_
      refine ⟨_, ?hq4m, ⟨k + 1, (endOf d (ga (ga (strandsL d) i) k) false).1 :: sn2, mp ((endOf d (ga (ga (strandsL d) i) k) false).1 : Int) true es2, rfl, hax_.sub ⟨rfl, rfl, rfl, rfl, rfl, rfl, rfl, rfl, rfl, trivial⟩, S8.pick [1] [_] (by decide) ⟨rfl, trivial⟩, ?hq4f0, ?hq4f1, ?hq4f2⟩⟩
      case hq4f0 => omega
      case hq4f1 => (refine fb_go hf2 (by omega) ?_; rintro ⟨h1, h2⟩; first | omega | (rw [hsn] at hg38; simp only [Bool.not_eq_true', decide_eq_true_eq, decide_eq_false_iff_not, Decidable.not_not, Bool.not_eq_false', Bool.not_eq_true, Bool.not_eq_false] at hg38; exact h1 hg38))
      case hq4f2 => exact hse2.put _
      case hq4m => omega
    ·replace hb23 := of_decide_eq_false hb23
     refine ws_exit rfl rfl (nm_blk (nmk [0, 4, 5, 14, 15, 16] rfl (nm_thn (ws_region rfl (wlo 0 1 rfl rfl rfl (wo_run rfl rfl (run_add rfl rfl rfl (by first | omega | (simp only [lens]; omega))) ?_))))))
     refine wlm 1 2 rfl rfl rfl rfl rfl rfl rfl (wl_end rfl (nm_lp ?_))
     intro ax_ hax_
     refine ⟨_, ?hq5m, ⟨i + 1, sn2, es2, rfl, hax_.sub ⟨rfl, rfl, rfl, rfl, rfl, rfl, trivial⟩, S4.pick [0] [_] (by decide) ⟨rfl, trivial⟩, ?hq5f0, ?hq5f1, ?hq5f2⟩⟩
     case hq5f0 => omega
     case hq5f1 => (rw [hf2]; exact congrArg _ (restV_end (by omega)))
     case hq5f2 => exact hse2
     case hq5m => omega
  ·replace hb17 := of_decide_eq_false hb17
   refine ws_exit rfl rfl (nmk [5] rfl (nm_thn (ws_seqN lowH_n49 lowH_n50 rfl rfl rfl (ws_region rfl (wlm 0 1 rfl rfl rfl rfl rfl rfl rfl (wlo 1 2 rfl rfl rfl (wo_run rfl rfl (run_len rfl rfl rfl rfl rfl rfl Tryz.underlying103) (wla 2 3 rfl rfl rfl rfl rfl rfl rfl (wla 3 4 rfl rfl rfl rfl rfl rfl rfl ?_)))))))))
   refine wl_end rfl (nmk [2, 3] rfl (nm_thn (ws_ret hC [_, _] rfl rfl ⟨rfl, rfl, trivial⟩ ?_)))
   refine ⟨_, rfl, _, hle1, (S3.pick [] [] (by decide) trivial), ?_⟩
   rw [hlenstrandsL]
   have e9 : low d = -1 := by rw [hf, rest0_end (by omega)]; rfl
   rw [e9]; rfl
end Go.Proofs.YthppkofceancjaaGreat
namespace Go.Proofs.YthppkofceancjaaGreat
open Go.ChangeShapes Go.WideShapes Go.ChangeAt Go.RowKit
theorem bld_ok {d : Dg} (h : arcsB d = true) {v : Value} {N : Hp} (k : BldT d v N) : ∃ g cA iA oA cc ic oc, v = .tuple [.pointer (some ⟨g, 0, none⟩), .bool true].toArray ∧ ShM N d g cA iA oA cc ic oc := by
 rcases k with ⟨h1, _⟩ | ⟨_, k⟩
 ·rw [h] at h1; cases h1
 ·exact k
theorem strands_pos {d : Dg} (h : 1 ≤ d.crs.length) : 1 ≤ (strandsL d).length := by
 have key : ∀ A, 1 ≤ ((ringsF (nextN d) (2 * d.crs.length + 1) (A + 1)).2).length := by
  intro A
  induction A with
  | zero =>
   rw [ringsF_ring (by show ga (List.replicate (2 * d.crs.length + 1) false) 1 = false; exact ga_rep _ _ _ (by omega))]
   dsimp only
   rw [List.length_append, List.length_singleton]; omega
  | succ A ih =>
   rw [ringsF]
   split
   ·exact ih
   ·rw [List.length_append, List.length_singleton]; omega
 have := key (2 * d.crs.length - 1)
 rwa [show 2 * d.crs.length - 1 + 1 = 2 * d.crs.length by omega] at this
/-- The bound of the powers. -/
def bP (d : Dg) : Nat := 2 * mu d + 210
theorem homL_ring {f : Nat} {d : Dg} (hl : low d < 0) : homL (f + 1) d = ringL (rgsN d) := by rw [homL, if_pos hl]
noncomputable def ofH_n0 : Code := Tryz.f43.body.getD .skip
noncomputable def ofH_n1 : Code := cL ofH_n0
noncomputable def ofH_n2 : Code := cR ofH_n0
noncomputable def ofH_n3 : Code := cL ofH_n2
noncomputable def ofH_n4 : Code := cR ofH_n2
noncomputable def ofH_n5 : Code := cL ofH_n4
noncomputable def ofH_n6 : Code := cR ofH_n4
noncomputable def ofH_n7 : Code := cL ofH_n5
noncomputable def ofH_n8 : Code := cR ofH_n5
noncomputable def ofH_n10 : Code := cR ofH_n8
noncomputable def ofH_n11 : Code := cL ofH_n6
noncomputable def ofH_n12 : Code := cR ofH_n6
noncomputable def ofH_n13 : Code := cL ofH_n12
noncomputable def ofH_n14 : Code := cR ofH_n12
noncomputable def ofH_n15 : Code := cL ofH_n13
noncomputable def ofH_n16 : Code := cR ofH_n13
noncomputable def ofH_n17 : Code := cL ofH_n16
noncomputable def ofH_n18 : Code := cR ofH_n16
noncomputable def ofH_n19 : Code := cL ofH_n17
noncomputable def ofH_n20 : Code := cR ofH_n17
noncomputable def ofH_n21 : Code := cL ofH_n14
noncomputable def ofH_n22 : Code := cR ofH_n14
noncomputable def ofH_n23 : Code := cL ofH_n22
noncomputable def ofH_n24 : Code := cR ofH_n22
noncomputable def ofH_n25 : Code := cL ofH_n24
noncomputable def ofH_n26 : Code := cR ofH_n24
noncomputable def ofH_n27 : Code := cL ofH_n25
noncomputable def ofH_n28 : Code := cR ofH_n25
noncomputable def ofH_n29 : Code := cL ofH_n28
noncomputable def ofH_n30 : Code := cR ofH_n28
noncomputable def ofH_n31 : Code := cL ofH_n29
noncomputable def ofH_n32 : Code := cR ofH_n29
noncomputable def ofH_n33 : Code := cL ofH_n26
noncomputable def ofH_n34 : Code := cR ofH_n26
noncomputable def ofH_n35 : Code := cL ofH_n30
noncomputable def ofH_n36 : Code := cR ofH_n30
set_option maxHeartbeats 1000000 in
set_option maxRecDepth 10000 in
theorem ofH_t {w : World} {M : Hp} {X : Fr} (d : Dg) {dcrsA : Option Addr} {dcrsc : Nat} (hdcrs : RdA cdCr (M.un X.h) dcrsA dcrsc d.crs) {f : Nat} (J : Jd d) (hf : mu d < f + 1) (ih : ∀ {w : World} {M : Hp} {X : Fr} (d : Dg) {A : Option Addr} {c : Nat}, RdA cdCr (M.un X.h) A c d.crs → Jd d → mu d < f → SH w M X [] → Ct Tryz.prog 43 [.agg [.slice A d.crs.length c, .int .i64 d.loops].toArray] w M X (HmR (bP d) (cT (homL f d)))) (S : SH w M X []) : Ct Tryz.prog 43 [.agg [.slice dcrsA d.crs.length dcrsc, .int .i64 d.loops].toArray] w M X (HmR (bP d) (cT (homL (f + 1) d))) := by
 unfold Ct
 have rmhdcrs : d.crs.length * 40 ≤ 140737488355328 := hdcrs.room
 have hab := J.ab
 have hn8 := J.n
 have hn : d.crs.length ≤ 16 := by omega
 have hlo := J.l0
 have hnl := J.nl
 have hlb := J.lb
 have hmu := mu_le J
 have hsl9 := (rgsN_le J).2
 refine calls_in (b := ofH_n0) Tryz.func43 rfl Tryz.ntmps43 rfl (fun C hC => (ws_sub [(0, _)] ⟨rfl, trivial⟩ (ws_seqN ofH_n1 ofH_n2 rfl rfl rfl (ws_region rfl (wlo 0 1 rfl rfl rfl (wo_box (l := [_, _]) rfl rfl rfl rfl rfl S ?_))))))
 intro gb1 w1 S1; clear S
 refine wla 1 2 rfl rfl rfl rfl rfl rfl rfl (wl_end rfl (nmk [1] rfl (nm_thn (ws_seqN ofH_n3 ofH_n4 rfl rfl rfl (ws_region rfl (wlo 0 1 rfl rfl rfl (wo_run rfl rfl (run_loadN (us := [_, _]) rfl rfl Tryz.underlying24 rfl sz24 (S1.boxcs (i := 0) rfl ⟨rfl, rfl, trivial⟩)) (wlo 1 2 rfl rfl rfl (wo_ct rfl rfl rfl rfl rfl rfl rfl cf83 S1 (Build_t d hn (hdcrs.mono S1.un_XH) S1.lend) ?_)))))))))
 intro vw2 w2 M1 hle1 S2 hRw2; clear S1
 replace hdcrs := hdcrs.mono (Hp.un_mono hle1 S2.mx)
 obtain ⟨g1, cA12, iA12, oA12, cc12, ic12, oc12, rfl, hsb12, hsc12, hsi12, hso12⟩ := bld_ok hab hRw2
 refine wlm 2 3 rfl rfl rfl rfl rfl rfl rfl (wlo 3 4 rfl rfl rfl (wo_run rfl rfl (run_extract rfl rfl rfl) (wlo 4 5 rfl rfl rfl (wo_run rfl rfl (run_extract rfl rfl rfl) (wla 5 6 rfl rfl rfl rfl rfl rfl rfl (wla 6 7 rfl rfl rfl rfl rfl rfl rfl (wl_end rfl (nmk [3, 4] rfl (nm_thn (ws_seqN ofH_n5 ofH_n6 rfl rfl rfl ?_))))))))))
 refine ws_seqN ofH_n7 ofH_n8 rfl rfl rfl (ws_region rfl (wlm 0 1 rfl rfl rfl rfl rfl rfl rfl (wlo 1 2 rfl rfl rfl (wo_run rfl rfl (run_not rfl rfl) (wl_end rfl (nmk [3, 16] rfl (nm_thn (ws_condFN ofH_n10 rfl rfl rfl (ws_skip rfl ?_)))))))))
 refine nmk [3] rfl (nm_thn (ws_seqN ofH_n11 ofH_n12 rfl rfl rfl (ws_region rfl (wlm 0 1 rfl rfl rfl rfl rfl rfl rfl (wlo 1 2 rfl rfl rfl (wo_ct rfl rfl rfl rfl rfl rfl rfl cf84 S2 (lowH_t d (hsb12.mono (Hp.le_un _ _)) (hsc12.mono (Hp.le_un _ _)) (hsi12.mono (Hp.le_un _ _)) (hso12.mono (Hp.le_un _ _)) hn hab S2.lend) ?_))))))
 intro vw3 w3 M2 hle2 S3 hRw3; clear S2
 replace hdcrs := hdcrs.mono (Hp.un_mono hle2 S3.mx)
 replace hsb12 := hsb12.mono hle2
 replace hsc12 := hsc12.mono hle2
 replace hsi12 := hsi12.mono hle2
 replace hso12 := hso12.mono hle2
 obtain rfl := hRw3
 refine wlm 2 3 rfl rfl rfl rfl rfl rfl rfl (wlo 3 4 rfl rfl rfl (wo_run rfl rfl (run_extract rfl rfl rfl) (wlo 4 5 rfl rfl rfl (wo_run rfl rfl (run_extract rfl rfl rfl) (wla 5 6 rfl rfl rfl rfl rfl rfl rfl (wla 6 7 rfl rfl rfl rfl rfl rfl rfl (wl_end rfl (nmk [3, 5, 6] rfl (nm_thn (ws_seqN ofH_n13 ofH_n14 rfl rfl rfl ?_))))))))))
 refine ws_seqN ofH_n15 ofH_n16 rfl rfl rfl (ws_region rfl (wlm 0 1 rfl rfl rfl rfl rfl rfl rfl (wlo 1 2 rfl rfl rfl (wo_run rfl rfl (run_lss rfl rfl rfl) (wl_end rfl (nmk [3, 5, 6, 24] rfl (nm_thn ?_)))))))
 refine ws_condN ofH_n17 ofH_n18 rfl rfl rfl rfl (fun hb24 => ?_) (fun hb24 => ?_)
 ·replace hb24 := of_decide_eq_true hb24
  refine ws_seqN ofH_n19 ofH_n20 rfl rfl rfl ?_
  have hl9 : low d < 0 := hb24
  have hrn := rgsN_le J
  have hrg : 1 ≤ (strandsL d).length + d.loops.toNat ∧ (strandsL d).length + d.loops.toNat ≤ 150 := by (have h8 := hrn.2; refine ⟨?_, by omega⟩; by_cases h9 : 1 ≤ d.crs.length; (have := strands_pos h9; omega); omega)
  refine ws_region rfl (wlm 0 1 rfl rfl rfl rfl rfl rfl rfl (wlm 1 2 rfl rfl rfl rfl rfl rfl rfl (wlo 2 3 rfl rfl rfl (wo_run rfl rfl (run_nilCheck rfl rfl) (wlo 3 4 rfl rfl rfl (wo_run rfl rfl (run_fieldAddr rfl rfl Tryz.underlying70 rfl (ce24) (nf24)) (wlo 4 5 rfl rfl rfl (wo_run rfl rfl (run_fieldAddr rfl rfl Tryz.underlying24 rfl (ce3) (nf3)) (wlo 5 6 rfl rfl rfl (wo_run rfl rfl (run_load1 rfl rfl Tryz.underlying3 rfl (hsb12.cell S3.m rfl)) (wlo 6 7 rfl rfl rfl (wo_run rfl rfl (run_add rfl rfl rfl (by first | omega | (simp only [lens]; omega))) ?_))))))))))))
  refine wl_eq 31 (.int .i64 (((strandsL d).length + d.loops.toNat : Nat) : Int)) rfl (int_eq (by omega)) ?_
  refine wlo 7 8 rfl rfl rfl (wo_ct rfl rfl rfl rfl rfl rfl rfl cf85 S3 (ringsH_t ((strandsL d).length + d.loops.toNat) (hrg) S3.lend) ?_)
  intro vw4 w4 M3 hle3 S4 hRw4; clear S3
  replace hdcrs := hdcrs.mono (Hp.un_mono hle3 S4.mx)
  replace hsb12 := hsb12.mono hle3
  replace hsc12 := hsc12.mono hle3
  replace hsi12 := hsi12.mono hle3
  replace hso12 := hso12.mono hle3
  obtain ⟨g2, es32, rfl, hm1, he32, hc32⟩ := hRw4
  refine wla 8 9 rfl rfl rfl rfl rfl rfl rfl (wl_end rfl (nmk [2] rfl (nm_thn (ws_ret hC [_] rfl rfl ⟨rfl, trivial⟩ ?_))))
  refine ⟨_, rfl, _, (hle1.trans hle2).trans hle3, (S4.pick [] [] (by decide) trivial), ?_⟩
  exact ⟨_, _, rfl, hm1, he32.mono (by unfold bP; omega), by rw [homL_ring hl9, hc32]; rfl⟩
 ·replace hb24 := of_decide_eq_false hb24
  refine ws_skip rfl (nmk [3, 5] rfl (nm_thn (ws_seqN ofH_n21 ofH_n22 rfl rfl rfl ?_)))
  obtain ⟨kk, hkk⟩ : ∃ kk : Nat, low d = (kk : Int) := ⟨(low d).toNat, by omega⟩
  obtain ⟨hm1, hk⟩ := mu_ch hab hkk
  have hm2 := mu_sm hab hkk
  have hkt : (low d).toNat = kk := by omega
  have hl9 : ¬ low d < 0 := hb24
  refine ws_eq 5 (.int .i64 (kk : Int)) rfl (int_eq hkk) (ws_region rfl (wlm 0 1 rfl rfl rfl rfl rfl rfl rfl (wlm 1 2 rfl rfl rfl rfl rfl rfl rfl (wlo 2 3 rfl rfl rfl (wo_ct rfl rfl rfl rfl rfl rfl rfl cf86 S3 (change_t d kk (hsb12.mono (Hp.le_un _ _)) (hsc12.mono (Hp.le_un _ _)) (hsi12.mono (Hp.le_un _ _)) (hso12.mono (Hp.le_un _ _)) hn hk S3.lend) ?_)))))
  intro vw5 w5 M4 hle4 S5 hRw5; clear S3
  replace hdcrs := hdcrs.mono (Hp.un_mono hle4 S5.mx)
  replace hsb12 := hsb12.mono hle4
  replace hsc12 := hsc12.mono hle4
  replace hsi12 := hsi12.mono hle4
  replace hso12 := hso12.mono hle4
  obtain ⟨A1, c1, rfl, hr1⟩ := hRw5
  refine wlo 3 4 rfl rfl rfl (wo_ct rfl rfl rfl rfl rfl rfl rfl cf43 S5 (ih (chD d kk) (hr1.mono (Hp.le_un _ _)) ((J.ch hk)) ((by omega)) S5.lend) ?_)
  intro vw6 w6 M5 hle5 S6 hRw6; clear S5
  replace hdcrs := hdcrs.mono (Hp.un_mono hle5 S6.mx)
  replace hsb12 := hsb12.mono hle5
  replace hsc12 := hsc12.mono hle5
  replace hsi12 := hsi12.mono hle5
  replace hso12 := hso12.mono hle5
  replace hr1 := hr1.mono hle5
  obtain ⟨g3, es36, rfl, hm2, he36, hc36⟩ := hRw6
  refine wlm 4 5 rfl rfl rfl rfl rfl rfl rfl (wlm 5 6 rfl rfl rfl rfl rfl rfl rfl (wlo 6 7 rfl rfl rfl (wo_buildSlice1 (C := cdInt) (l := [_]) rfl rfl rfl rfl sl53 rfl rfl rfl rfl S6 ?_)))
  intro gb2 w7 S7; clear S6
  have hr2 := S7.lendBox (C := cdInt) (z := (kk : Int)) (i := 0) rfl rfl (by decide)
  have hcall1 := Without_t d [(kk : Int)] (hsb12.mono (Hp.le_un _ _)) (hsc12.mono (Hp.le_un _ _)) (hsi12.mono (Hp.le_un _ _)) (hso12.mono (Hp.le_un _ _)) hr2 kk hk rfl hn hab ⟨hlo, by omega⟩ S7.lend
  refine wlo 7 8 rfl rfl rfl (wo_ct rfl rfl rfl rfl rfl rfl rfl cf87 S7 (hcall1) ?_)
  intro vw8 w8 M6 hle6 S8 hRw8; clear S7
  replace hdcrs := hdcrs.mono (Hp.un_mono hle6 S8.mx)
  replace hsb12 := hsb12.mono hle6
  replace hsc12 := hsc12.mono hle6
  replace hsi12 := hsi12.mono hle6
  replace hso12 := hso12.mono hle6
  replace hr1 := hr1.mono hle6
  replace hm2 := hm2.mono hle6
  obtain ⟨A2, c2, rfl, hr3⟩ := hRw8
  refine wlo 8 9 rfl rfl rfl (wo_ct rfl rfl rfl rfl rfl rfl rfl cf43 S8 (ih (smD d kk) (hr3.mono (Hp.le_un _ _)) ((J.sm hk)) ((by omega)) S8.lend) ?_)
  intro vw9 w9 M7 hle7 S9 hRw9; clear S8
  replace hdcrs := hdcrs.mono (Hp.un_mono hle7 S9.mx)
  replace hsb12 := hsb12.mono hle7
  replace hsc12 := hsc12.mono hle7
  replace hsi12 := hsi12.mono hle7
  replace hso12 := hso12.mono hle7
  replace hr1 := hr1.mono hle7
  replace hm2 := hm2.mono hle7
  replace hr3 := hr3.mono hle7
  obtain ⟨g4, es41, rfl, hm3, he41, hc41⟩ := hRw9
  refine wla 9 10 rfl rfl rfl rfl rfl rfl rfl (wla 10 11 rfl rfl rfl rfl rfl rfl rfl (wl_end rfl (nmk [3, 5, 7, 8] rfl (nm_thn (ws_seqN ofH_n23 ofH_n24 rfl rfl rfl (ws_region rfl (wlo 0 1 rfl rfl rfl (wo_makeMap Pw Int (fun x => Value.agg (cdPw.f x).toArray) (Value.int .i64) rfl rfl rfl S9 ?_))))))))
  intro gm1 w10 S10; clear S9
  refine wla 1 2 rfl rfl rfl rfl rfl rfl rfl (wl_end rfl (nmk [3, 5, 7, 8, 9] rfl (nm_thn (ws_seqN ofH_n25 ofH_n26 rfl rfl rfl (ws_seqN ofH_n27 ofH_n28 rfl rfl rfl (ws_region rfl (wlm 0 1 rfl rfl rfl rfl rfl rfl rfl (wlo 1 2 rfl rfl rfl (wo_run rfl rfl (run_nilCheck rfl rfl) ?_)))))))))
  refine wlo 2 3 rfl rfl rfl (wo_run rfl rfl (run_fieldAddr rfl rfl Tryz.underlying70 rfl (ce24) (nf24)) (wlo 3 4 rfl rfl rfl (wo_run rfl rfl (run_fieldAddr rfl rfl Tryz.underlying24 rfl (ce22) (nf22)) (wlo 4 5 rfl rfl rfl (wo_run rfl rfl (run_load1 rfl rfl Tryz.underlying22 rfl (hsb12.cell S10.m rfl)) (wlm 5 6 rfl rfl rfl rfl rfl rfl rfl (wlo 6 7 rfl rfl rfl (wo_run rfl rfl (run_indexM (C := cdCr) kk rfl rfl rfl sl22 (by first | rfl | omega) hsc12 (by first | omega | (simp only [lens]; omega))) ?_))))))))
  refine wlo 7 8 rfl rfl rfl (wo_run rfl rfl (run_fieldAddr rfl rfl Tryz.underlying77 rfl (ce4) (nf4)) (wlo 8 9 rfl rfl rfl (wo_run rfl rfl (run_load1 rfl rfl Tryz.underlying4 rfl (hsc12.cell S10.m (i := kk) (by first | omega | (simp only [lens]; omega)) 4 rfl rfl)) ?_)))
  refine wl_end rfl (nmk [7, 8, 9, 51] rfl (nm_thn ?_))
  refine ws_condN ofH_n29 ofH_n30 rfl rfl rfl rfl (fun hb51 => ?_) (fun hb51 => ?_)
  ·refine ws_seqN ofH_n31 ofH_n32 rfl rfl rfl (ws_region rfl (wlm 0 1 rfl rfl rfl rfl rfl rfl rfl (wlm 1 2 rfl rfl rfl rfl rfl rfl rfl (wlo 2 3 rfl rfl rfl (wo_run rfl rfl (run_build (l := [_, _]) rfl rfl st90 rfl rfl) ?_)))))
   have S11 := S10.pick [0, 1, 2] [_, _, _] (by decide) ⟨rfl, rfl, rfl, trivial⟩; clear S10
   have S12 : SH _ _ _ (Rs.bun [_] :: [_, _]) := SH.bunC (A := [_]) (B := [_, _]) S11; clear S11
   have S13 : SH _ _ _ [_, _, _] := S12.less (i := 0) rfl
   have hcall2 := addH_b ([]) es36 (⟨(-2), 0⟩ : Pw) 1 hm2 (B := (2 * mu d + 210)) (C := (2 * mu d + 208)) (by omega) (EntP.nil_ _) (he36.mono (show _ ≤ 2 * mu d + 208 by unfold bP; omega)) (by decide) (by omega) (fun k hk => by unfold PB pAdd at *; simp only at *; omega) (S12.lend1 (i := 0) rfl); clear S13
   refine wlo 3 4 rfl rfl rfl (wo_c1 (i := 0) rfl rfl rfl rfl rfl rfl rfl cf89 S12 rfl hcall2 ?_)
   intro vw11 w11 M8 rw11 hle8 S14 hR1; clear S12
   obtain ⟨huhMX1, hMX1, hR2⟩ := hR1
   rw [hMX1] at S14
   clear hMX1
   subst huhMX1
   obtain ⟨e9_55, rfl, hE_55, hC_55⟩ := hR2
   replace S14 : SH _ _ _ (Rs.bun [_] :: [_, _]) := S14
   have S15 : SH _ _ _ [_, _, _] := SH.unbunC (A := [_]) (B := [_, _]) S14; clear S14
   refine wl_end rfl (nmk [8, 9] rfl (nm_thn (ws_region rfl (wlm 0 1 rfl rfl rfl rfl rfl rfl rfl (wlm 1 2 rfl rfl rfl rfl rfl rfl rfl (wlo 2 3 rfl rfl rfl (wo_run rfl rfl (run_build (l := [_, _]) rfl rfl st90 rfl rfl) ?_)))))))
   have S16 := S15.pick [0, 1, 2] [_, _, _] (by decide) ⟨rfl, rfl, rfl, trivial⟩; clear S15
   have S17 : SH _ _ _ (Rs.bun [_] :: [_, _]) := SH.bunC (A := [_]) (B := [_, _]) S16; clear S16
   have S18 : SH _ _ _ [_, _, _] := S17.less (i := 0) rfl
   have hcall3 := addH_b e9_55 es41 (⟨(-1), 1⟩ : Pw) 1 hm3 (B := (2 * mu d + 210)) (C := (2 * mu d + 208)) (by omega) hE_55 (he41.mono (show _ ≤ 2 * mu d + 208 by unfold bP; omega)) (by decide) (by omega) (fun k hk => by unfold PB pAdd at *; simp only at *; omega) (S17.lend1 (i := 0) rfl); clear S18
   refine wlo 3 4 rfl rfl rfl (wo_c1 (i := 0) rfl rfl rfl rfl rfl rfl rfl cf89 S17 rfl hcall3 ?_)
   intro vw12 w12 M9 rw12 hle9 S19 hR3; clear S17
   obtain ⟨huhMX2, hMX2, hR4⟩ := hR3
   rw [hMX2] at S19
   clear hMX2
   subst huhMX2
   obtain ⟨e9_59, rfl, hE_59, hC_59⟩ := hR4
   replace S19 : SH _ _ _ (Rs.bun [_] :: [_, _]) := S19
   have S20 : SH _ _ _ [_, _, _] := SH.unbunC (A := [_]) (B := [_, _]) S19; clear S19
   refine wl_end rfl (nmk [9] rfl (nm_thn (ws_seqN ofH_n33 ofH_n34 rfl rfl rfl (ws_region rfl (wlm 0 1 rfl rfl rfl rfl rfl rfl rfl (wla 1 2 rfl rfl rfl rfl rfl rfl rfl (wl_end rfl (nmk [2] rfl ?_))))))))
   refine nm_thn ?_
   obtain ⟨M10, hle10, S21, hm4⟩ := S20.pubmap (i := 0) (H' := [_, _, _]) rfl rfl; clear S20
   replace hdcrs := hdcrs.mono (Hp.un_mono hle10 S21.mx)
   replace hsb12 := hsb12.mono hle10
   replace hsc12 := hsc12.mono hle10
   replace hsi12 := hsi12.mono hle10
   replace hso12 := hso12.mono hle10
   replace hr1 := hr1.mono hle10
   replace hm2 := hm2.mono hle10
   replace hr3 := hr3.mono hle10
   replace hm3 := hm3.mono hle10
   refine ws_ret hC [_] rfl rfl ⟨rfl, trivial⟩ ?_
   refine ⟨_, rfl, _, (((((hle1.trans hle2).trans hle4).trans hle5).trans hle6).trans hle7).trans hle10, (S21.pick [] [] (by decide) trivial), ?_⟩
   have e7 := homL_step (f := f) J hf hl9
   rw [hkt] at e7
   refine ⟨_, _, rfl, hm4, hE_59, ?_⟩
   rw [hC_59, hC_55, cE_nil, Pol.zero_add, hc36, hc41, e7]
   first | (rw [if_pos hb51]; rfl) | (rw [if_neg (by rw [hb51]; decide)]; rfl)
  ·refine ws_seqN ofH_n35 ofH_n36 rfl rfl rfl (ws_region rfl (wlm 0 1 rfl rfl rfl rfl rfl rfl rfl (wlm 1 2 rfl rfl rfl rfl rfl rfl rfl (wlo 2 3 rfl rfl rfl (wo_run rfl rfl (run_build (l := [_, _]) rfl rfl st90 rfl rfl) ?_)))))
   have S22 := S10.pick [0, 1, 2] [_, _, _] (by decide) ⟨rfl, rfl, rfl, trivial⟩; clear S10
   have S23 : SH _ _ _ (Rs.bun [_] :: [_, _]) := SH.bunC (A := [_]) (B := [_, _]) S22; clear S22
   have S24 : SH _ _ _ [_, _, _] := S23.less (i := 0) rfl
   have hcall4 := addH_b ([]) es36 (⟨2, 0⟩ : Pw) 1 hm2 (B := (2 * mu d + 210)) (C := (2 * mu d + 208)) (by omega) (EntP.nil_ _) (he36.mono (show _ ≤ 2 * mu d + 208 by unfold bP; omega)) (by decide) (by omega) (fun k hk => by unfold PB pAdd at *; simp only at *; omega) (S23.lend1 (i := 0) rfl); clear S24
   refine wlo 3 4 rfl rfl rfl (wo_c1 (i := 0) rfl rfl rfl rfl rfl rfl rfl cf89 S23 rfl hcall4 ?_)
   intro vw13 w13 M11 rw13 hle11 S25 hR5; clear S23
   obtain ⟨huhMX3, hMX3, hR6⟩ := hR5
   rw [hMX3] at S25
   clear hMX3
   subst huhMX3
   obtain ⟨e9_63, rfl, hE_63, hC_63⟩ := hR6
   replace S25 : SH _ _ _ (Rs.bun [_] :: [_, _]) := S25
   have S26 : SH _ _ _ [_, _, _] := SH.unbunC (A := [_]) (B := [_, _]) S25; clear S25
   refine wl_end rfl (nmk [8, 9] rfl (nm_thn (ws_region rfl (wlm 0 1 rfl rfl rfl rfl rfl rfl rfl (wlm 1 2 rfl rfl rfl rfl rfl rfl rfl (wlo 2 3 rfl rfl rfl (wo_run rfl rfl (run_build (l := [_, _]) rfl rfl st90 rfl rfl) ?_)))))))
   have S27 := S26.pick [0, 1, 2] [_, _, _] (by decide) ⟨rfl, rfl, rfl, trivial⟩; clear S26
   have S28 : SH _ _ _ (Rs.bun [_] :: [_, _]) := SH.bunC (A := [_]) (B := [_, _]) S27; clear S27
   have S29 : SH _ _ _ [_, _, _] := S28.less (i := 0) rfl
   have hcall5 := addH_b e9_63 es41 (⟨1, 1⟩ : Pw) (-1) hm3 (B := (2 * mu d + 210)) (C := (2 * mu d + 208)) (by omega) hE_63 (he41.mono (show _ ≤ 2 * mu d + 208 by unfold bP; omega)) (by decide) (by omega) (fun k hk => by unfold PB pAdd at *; simp only at *; omega) (S28.lend1 (i := 0) rfl); clear S29
   refine wlo 3 4 rfl rfl rfl (wo_c1 (i := 0) rfl rfl rfl rfl rfl rfl rfl cf89 S28 rfl hcall5 ?_)
   intro vw14 w14 M12 rw14 hle12 S30 hR7; clear S28
   obtain ⟨huhMX4, hMX4, hR8⟩ := hR7
   rw [hMX4] at S30
   clear hMX4
   subst huhMX4
   obtain ⟨e9_67, rfl, hE_67, hC_67⟩ := hR8
   replace S30 : SH _ _ _ (Rs.bun [_] :: [_, _]) := S30
   have S31 : SH _ _ _ [_, _, _] := SH.unbunC (A := [_]) (B := [_, _]) S30; clear S30
   refine wl_end rfl (nmk [9] rfl (nm_thn (ws_seqN ofH_n33 ofH_n34 rfl rfl rfl (ws_region rfl (wlm 0 1 rfl rfl rfl rfl rfl rfl rfl (wla 1 2 rfl rfl rfl rfl rfl rfl rfl (wl_end rfl (nmk [2] rfl ?_))))))))
   refine nm_thn ?_
   obtain ⟨M13, hle13, S32, hm5⟩ := S31.pubmap (i := 0) (H' := [_, _, _]) rfl rfl; clear S31
   replace hdcrs := hdcrs.mono (Hp.un_mono hle13 S32.mx)
   replace hsb12 := hsb12.mono hle13
   replace hsc12 := hsc12.mono hle13
   replace hsi12 := hsi12.mono hle13
   replace hso12 := hso12.mono hle13
   replace hr1 := hr1.mono hle13
   replace hm2 := hm2.mono hle13
   replace hr3 := hr3.mono hle13
   replace hm3 := hm3.mono hle13
   refine ws_ret hC [_] rfl rfl ⟨rfl, trivial⟩ ?_
   refine ⟨_, rfl, _, (((((hle1.trans hle2).trans hle4).trans hle5).trans hle6).trans hle7).trans hle13, (S32.pick [] [] (by decide) trivial), ?_⟩
   have e7 := homL_step (f := f) J hf hl9
   rw [hkt] at e7
   refine ⟨_, _, rfl, hm5, hE_67, ?_⟩
   rw [hC_67, hC_63, cE_nil, Pol.zero_add, hc36, hc41, e7]
   first | (rw [if_pos hb51]; rfl) | (rw [if_neg (by rw [hb51]; decide)]; rfl)
end Go.Proofs.YthppkofceancjaaGreat
namespace Go.Proofs.YthppkofceancjaaGreat
open Go.ChangeShapes Go.WideShapes Go.ChangeAt Go.RowKit
theorem of_t : ∀ (f : Nat) {w : World} {M : Hp} {X : Fr} (d : Dg) {A : Option Addr} {c : Nat}, RdA cdCr (M.un X.h) A c d.crs → Jd d → mu d < f → SH w M X [] → Ct Tryz.prog 43 [.agg [.slice A d.crs.length c, .int .i64 d.loops].toArray] w M X (HmR (bP d) (cT (homL f d))) := by
 intro f
 induction f with
 | zero => intro w M X d A c _ _ h; omega
 | succ f ih => intro w M X d A c h J hf S; exact ofH_t d h J hf ih S
theorem put2_zero (l : List T2) (x z : Int) : put2 l x z 0 = l := by cases l <;> simp [put2]
theorem put2_eq {l : List T2} {x z c : Int} {k : Nat} (hk : k ≤ l.length) (hlt : ∀ j, j < k → ((ga l j).x < x ∨ (ga l j).x = x ∧ (ga l j).z < z)) (hc : c ≠ 0) (hend : k = l.length ∨ (k < l.length ∧ ¬ ((ga l k).x < x ∨ (ga l k).x = x ∧ (ga l k).z < z))) :
  put2 l x z c = l.take k ++ (if k < l.length ∧ (ga l k).x = x ∧ (ga l k).z = z then (if wr ((ga l k).c + c) = 0 then [] else [⟨x, z, wr ((ga l k).c + c)⟩]) ++ l.drop (k + 1) else ⟨x, z, c⟩ :: l.drop k) := by
 induction l generalizing k with
 | nil =>
  obtain rfl : k = 0 := by simp at hk; exact hk
  simp [put2, hc]
 | cons t l ih =>
  unfold put2
  rw [if_neg hc]
  cases k with
  | zero =>
   have hend' : ¬ (t.x < x ∨ t.x = x ∧ t.z < z) := by
    rcases hend with h | h
    ·simp at h
    ·exact h.2
   rw [if_neg hend']
   by_cases he : t.x = x ∧ t.z = z
   ·have h2 : 0 < (t :: l).length ∧ (ga (t :: l) 0).x = x ∧ (ga (t :: l) 0).z = z := ⟨by simp, he⟩
    rw [if_pos he, if_pos h2]
    show (if wr (t.c + c) ≠ 0 then ⟨x, z, wr (t.c + c)⟩ :: l else l) = [] ++ ((if wr (t.c + c) = 0 then [] else [⟨x, z, wr (t.c + c)⟩]) ++ l)
    by_cases h3 : wr (t.c + c) = 0
    ·rw [if_neg (fun h => h h3), if_pos h3]; rfl
    ·rw [if_pos h3, if_neg h3]; rfl
   ·have h2 : ¬ (0 < (t :: l).length ∧ (ga (t :: l) 0).x = x ∧ (ga (t :: l) 0).z = z) := fun h => he h.2
    rw [if_neg he, if_neg h2]; rfl
  | succ k =>
   have h0 : t.x < x ∨ t.x = x ∧ t.z < z := hlt 0 (by omega)
   rw [if_pos h0]
   have hl : (t :: l).length = l.length + 1 := rfl
   have ge : ∀ j, ga (t :: l) (j + 1) = ga l j := fun j => rfl
   rw [ih (k := k) (by omega) (fun j hj => hlt (j + 1) (by omega)) (by
    rcases hend with h | h
    ·exact .inl (by omega)
    ·exact .inr ⟨by omega, h.2⟩)]
   rw [ge k, hl]
   have : (k < l.length ∧ (ga l k).x = x ∧ (ga l k).z = z) ↔ (k + 1 < l.length + 1 ∧ (ga l k).x = x ∧ (ga l k).z = z) := ⟨fun h => ⟨by omega, h.2⟩, fun h => ⟨by omega, h.2⟩⟩
   by_cases h9 : k < l.length ∧ (ga l k).x = x ∧ (ga l k).z = z
   ·rw [if_pos h9, if_pos (this.1 h9)]; rfl
   ·rw [if_neg h9, if_neg (fun h => h9 (this.2 h))]; rfl
theorem put2_len (l : List T2) (x z c : Int) : (put2 l x z c).length ≤ l.length + 1 := by
 induction l with
 | nil =>
  rw [put2]
  split
  ·exact Nat.zero_le _
  ·exact Nat.le_refl _
 | cons t l ih =>
  rw [put2]
  simp only [List.length_cons]
  split
  ·simp only [List.length_cons]; omega
  ·split
   ·simp only [List.length_cons]; omega
   ·split
    ·split
     ·simp only [List.length_cons]; omega
     ·omega
    ·simp only [List.length_cons]; omega
def LsT (a : List T2) (u : Value) (N : Hp) : Prop := ∃ A c, u = .slice A a.length c ∧ RdA cdT2 N A c a
theorem sl42 : SlOf Tryz.prog 42 cdT2 := ⟨.agg [.int .i64 0, .int .i64 0, .int .i64 0].toArray, Tryz.underlying42, by kernel_rfl, rfl, by decide, by decide⟩
theorem sl87 : SlOf Tryz.prog 87 cdPw := ⟨.agg [.int .i64 0, .int .i64 0].toArray, Tryz.underlying87, by kernel_rfl, rfl, by decide, by decide⟩
noncomputable def Put2_n0 : Code := Tryz.f52.body.getD .skip
noncomputable def Put2_n1 : Code := cL Put2_n0
noncomputable def Put2_n2 : Code := cR Put2_n0
noncomputable def Put2_n3 : Code := cL Put2_n2
noncomputable def Put2_n4 : Code := cR Put2_n2
noncomputable def Put2_n5 : Code := cL Put2_n3
noncomputable def Put2_n6 : Code := cR Put2_n3
noncomputable def Put2_n7 : Code := cL Put2_n6
noncomputable def Put2_n8 : Code := cR Put2_n6
noncomputable def Put2_n9 : Code := cL Put2_n7
noncomputable def Put2_n10 : Code := cR Put2_n7
noncomputable def Put2_n11 : Code := cL Put2_n4
noncomputable def Put2_n12 : Code := cR Put2_n4
noncomputable def Put2_n13 : Code := cL Put2_n12
noncomputable def Put2_n14 : Code := cR Put2_n12
noncomputable def Put2_n15 : Code := cL Put2_n13
noncomputable def Put2_n16 : Code := cL Put2_n15
noncomputable def Put2_n17 : Code := cL Put2_n16
noncomputable def Put2_n18 : Code := cR Put2_n16
noncomputable def Put2_n19 : Code := cL Put2_n17
noncomputable def Put2_n20 : Code := cR Put2_n17
noncomputable def Put2_n21 : Code := cL Put2_n20
noncomputable def Put2_n22 : Code := cR Put2_n20
noncomputable def Put2_n23 : Code := cL Put2_n18
noncomputable def Put2_n24 : Code := cL Put2_n14
noncomputable def Put2_n25 : Code := cR Put2_n14
noncomputable def Put2_n26 : Code := cL Put2_n25
noncomputable def Put2_n27 : Code := cR Put2_n25
noncomputable def Put2_n28 : Code := cL Put2_n27
noncomputable def Put2_n29 : Code := cR Put2_n27
noncomputable def Put2_n30 : Code := cL Put2_n28
noncomputable def Put2_n31 : Code := cR Put2_n28
noncomputable def Put2_n32 : Code := cL Put2_n31
noncomputable def Put2_n33 : Code := cR Put2_n31
noncomputable def Put2_n34 : Code := cL Put2_n32
noncomputable def Put2_n35 : Code := cR Put2_n32
noncomputable def Put2_n36 : Code := cL Put2_n34
noncomputable def Put2_n37 : Code := cR Put2_n34
noncomputable def Put2_n38 : Code := cL Put2_n37
noncomputable def Put2_n39 : Code := cR Put2_n37
noncomputable def Put2_n40 : Code := cL Put2_n29
noncomputable def Put2_n41 : Code := cR Put2_n29
set_option maxHeartbeats 1000000 in
set_option maxRecDepth 10000 in
theorem Put2_t {w : World} {M : Hp} {X : Fr} (l : List T2) {lA : Option Addr} {lc : Nat} (x : Int) (z : Int) (c : Int) (hl : RdA cdT2 M lA lc l) (hro : l.length + 1 ≤ 4398046511104) (S : SH w M X []) : Ct Tryz.prog 52 [.slice lA l.length lc, .int .i64 x, .int .i64 z, .int .i64 c] w M X (LsT (put2 l x z c)) := by
 unfold Ct
 have rmhl : l.length * 24 ≤ 140737488355328 := hl.room
 refine calls_in (b := Put2_n0) Tryz.func52 rfl Tryz.ntmps52 rfl (fun C hC => (ws_sub [(0, _), (1, _), (2, _), (3, _)] ⟨rfl, rfl, rfl, rfl, trivial⟩ (ws_seqN Put2_n1 Put2_n2 rfl rfl rfl (ws_region rfl (wla 0 1 rfl rfl rfl rfl rfl rfl rfl (wl_end rfl (nmk [0, 1, 2, 3] rfl (nm_thn (ws_seqN Put2_n3 Put2_n4 rfl rfl rfl ?_)))))))))
 refine ws_seqN Put2_n5 Put2_n6 rfl rfl rfl (ws_region rfl (wlm 0 1 rfl rfl rfl rfl rfl rfl rfl (wlo 1 2 rfl rfl rfl (wo_run rfl rfl (run_eql rfl rfl rfl) (wl_end rfl (nmk [0, 1, 2, 3, 12] rfl (nm_thn ?_)))))))
 refine ws_condN Put2_n7 Put2_n8 rfl rfl rfl rfl (fun hb12 => ?_) (fun hb12 => ?_)
 ·replace hb12 := of_decide_eq_true hb12
  refine ws_seqN Put2_n9 Put2_n10 rfl rfl rfl (ws_region rfl (wlm 0 1 rfl rfl rfl rfl rfl rfl rfl (wla 1 2 rfl rfl rfl rfl rfl rfl rfl (wl_end rfl (nmk [8] rfl (nm_thn (ws_ret hC [_] rfl rfl ⟨rfl, trivial⟩ ?_)))))))
  refine ⟨_, rfl, _, Hp.le_refl _, (S.pick [] [] (by decide) trivial), ?_⟩
  have e9 : put2 l x z c = l := by rw [hb12]; exact put2_zero l x z
  rw [e9]
  exact ⟨_, _, rfl, hl⟩
 ·replace hb12 := of_decide_eq_false hb12
  refine ws_skip rfl (nmk [0, 1, 2, 3] rfl (nm_thn (ws_seqN Put2_n11 Put2_n12 rfl rfl rfl (ws_region rfl (wla 0 1 rfl rfl rfl rfl rfl rfl rfl (wl_end rfl (nm_thn (ws_seqN Put2_n13 Put2_n14 rfl rfl rfl ?_))))))))
  refine ws_cut (fun ax_ wx_ => ∃ (k : Nat) (M1 : Hp), M.le M1 ∧ Env 109 [(0, .slice lA l.length lc), (1, .int .i64 x), (2, .int .i64 z), (3, .int .i64 c), (9, .int .i64 (k : Int))] ax_ ∧ SH wx_ M1 X [] ∧ k ≤ l.length ∧ (∀ j, j < k → ((ga l j).x < x ∨ (ga l j).x = x ∧ (ga l j).z < z)) ∧ (k = l.length ∨ (k < l.length ∧ ¬ ((ga l k).x < x ∨ (ga l k).x = x ∧ (ga l k).z < z)))) ?_ ?_
  ·refine ws_blockN Put2_n15 0 rfl rfl rfl ?_
   refine ws_loopE (fun mx_ ax_ wx_ => ∃ (k : Nat) (M2 : Hp), M.le M2 ∧ mx_ = l.length - k ∧ Env 109 [(0, .slice lA l.length lc), (1, .int .i64 x), (2, .int .i64 z), (3, .int .i64 c), (9, .int .i64 (k : Int))] ax_ ∧ SH wx_ M2 X [] ∧ k ≤ l.length ∧ (∀ j, j < k → ((ga l j).x < x ∨ (ga l j).x = x ∧ (ga l j).z < z))) rfl ?_ ?_
   ·intro ax_ hax_
    refine ⟨_, ⟨0, _, Hp.le_refl _, rfl, hax_.sub ⟨rfl, rfl, rfl, rfl, rfl, trivial⟩, S.pick [] [] (by decide) trivial, ?hq1f0, ?hq1f1⟩⟩
    case hq1f0 => omega
    case hq1f1 => (intro j hj; omega)
   ·rintro m1 a1 w2 ⟨k, M2, hle2, rfl, he2, S2, hk, hlt⟩
    clear S
    refine ws_in he2 (c := Put2_n16) rfl ?_
    clear he2 a1
    replace hl := hl.mono hle2
    refine ws_seqN Put2_n17 Put2_n18 rfl rfl rfl (ws_seqN Put2_n19 Put2_n20 rfl rfl rfl (ws_region rfl (wlm 0 1 rfl rfl rfl rfl rfl rfl rfl (wlm 1 2 rfl rfl rfl rfl rfl rfl rfl (wlo 2 3 rfl rfl rfl (wo_run rfl rfl (run_len rfl rfl rfl rfl rfl rfl Tryz.underlying42) (wlo 3 4 rfl rfl rfl (wo_run rfl rfl (run_lss rfl rfl rfl) (wlm 4 5 rfl rfl rfl rfl rfl rfl rfl ?_)))))))))
    refine wl_split (t := 18) rfl (fun hg18 => ?_) (fun hg18 => ?_)
    ·replace hg18 := of_decide_eq_true hg18
     refine wlg 5 6 rfl rfl rfl rfl rfl rfl rfl rfl (wo_run rfl rfl (run_move rfl rfl) (wlg 6 7 rfl rfl rfl rfl rfl rfl rfl rfl (wo_run rfl rfl (run_move rfl rfl) (wlg 7 8 rfl rfl rfl rfl rfl rfl rfl rfl (wo_run rfl rfl (run_indexM (C := cdT2) k rfl rfl rfl sl42 (by first | rfl | omega) hl (by first | omega | (simp only [lens]; omega))) ?_)))))
     refine wlg 8 9 rfl rfl rfl rfl rfl rfl rfl rfl (wo_run rfl rfl (run_fieldAddr rfl rfl Tryz.underlying97 rfl (ce3) (nf3)) (wlg 9 10 rfl rfl rfl rfl rfl rfl rfl rfl (wo_run rfl rfl (run_load1 rfl rfl Tryz.underlying3 rfl (hl.cell S2.m (i := k) (by first | omega | (simp only [lens]; omega)) 0 rfl rfl)) ?_)))
     refine wlg 10 11 rfl rfl rfl rfl rfl rfl rfl rfl (wo_run rfl rfl (run_move rfl rfl) (wlg 11 12 rfl rfl rfl rfl rfl rfl rfl rfl (wo_run rfl rfl (run_lss rfl rfl rfl) (wlg 12 13 rfl rfl rfl rfl rfl rfl rfl rfl (wo_run rfl rfl (run_move rfl rfl) ?_)))))
     refine wl_split (t := 26) rfl (fun hg26 => ?_) (fun hg26 => ?_)
     ·replace hg26 := of_decide_eq_true hg26
      refine wln 13 14 rfl rfl rfl rfl rfl rfl rfl rfl rfl (wln 14 15 rfl rfl rfl rfl rfl rfl rfl rfl rfl (wln 15 16 rfl rfl rfl rfl rfl rfl rfl rfl rfl (wln 16 17 rfl rfl rfl rfl rfl rfl rfl rfl rfl (wln 17 18 rfl rfl rfl rfl rfl rfl rfl rfl rfl (wln 18 19 rfl rfl rfl rfl rfl rfl rfl rfl rfl (wln 19 20 rfl rfl rfl rfl rfl rfl rfl rfl rfl (wln 20 21 rfl rfl rfl rfl rfl rfl rfl rfl rfl (wln 21 22 rfl rfl rfl rfl rfl rfl rfl rfl rfl ?_))))))))
      refine wln 22 23 rfl rfl rfl rfl rfl rfl rfl rfl rfl (wln 23 24 rfl rfl rfl rfl rfl rfl rfl rfl rfl (wln 24 25 rfl rfl rfl rfl rfl rfl rfl rfl rfl (wln 25 26 rfl rfl rfl rfl rfl rfl rfl rfl rfl (wln 26 27 rfl rfl rfl rfl rfl rfl rfl rfl rfl (wln 27 28 rfl rfl rfl rfl rfl rfl rfl rfl rfl (wln 28 29 rfl rfl rfl rfl rfl rfl rfl rfl rfl (wlg 29 30 rfl rfl rfl rfl rfl rfl rfl rfl (wo_run rfl rfl (run_pickT rfl rfl rfl) (wlo 30 31 rfl rfl rfl (wo_run rfl rfl (run_pickT rfl rfl rfl) ?_))))))))))
      refine wl_end rfl (nmk [0, 1, 2, 3, 9, 44] rfl (nm_thn (ws_condTN Put2_n21 rfl rfl rfl (ws_skip rfl (nmk [0, 1, 2, 3, 9] rfl (nm_thn (ws_blockN Put2_n23 1 rfl rfl rfl (ws_region rfl ?_))))))))
      refine wlm 0 1 rfl rfl rfl rfl rfl rfl rfl (wlo 1 2 rfl rfl rfl (wo_run rfl rfl (run_add rfl rfl rfl (by first | omega | (simp only [lens]; omega))) ?_))
      refine wla 2 3 rfl rfl rfl rfl rfl rfl rfl (wl_end rfl (nm_blk (nm_lp ?_)))
      intro ax_ hax_
      refine ⟨_, ?hq2m, ⟨k + 1, _, (hle2), rfl, hax_.sub ⟨rfl, rfl, rfl, rfl, rfl, trivial⟩, S2.pick [] [] (by decide) trivial, ?hq2f0, ?hq2f1⟩⟩
      case hq2f0 => omega
      case hq2f1 => (intro j hj; by_cases h : j = k; (subst h; omega); exact hlt j (by omega))
      case hq2m => omega
     ·replace hg26 := of_decide_eq_false hg26
      refine wlg 13 14 rfl rfl rfl rfl rfl rfl rfl rfl (wo_run rfl rfl (run_move rfl rfl) (wlg 14 15 rfl rfl rfl rfl rfl rfl rfl rfl (wo_run rfl rfl (run_move rfl rfl) (wlg 15 16 rfl rfl rfl rfl rfl rfl rfl rfl (wo_run rfl rfl (run_indexM (C := cdT2) k rfl rfl rfl sl42 (by first | rfl | omega) hl (by first | omega | (simp only [lens]; omega))) ?_)))))
      refine wlg 16 17 rfl rfl rfl rfl rfl rfl rfl rfl (wo_run rfl rfl (run_fieldAddr rfl rfl Tryz.underlying97 rfl (ce3) (nf3)) (wlg 17 18 rfl rfl rfl rfl rfl rfl rfl rfl (wo_run rfl rfl (run_load1 rfl rfl Tryz.underlying3 rfl (hl.cell S2.m (i := k) (by first | omega | (simp only [lens]; omega)) 0 rfl rfl)) ?_)))
      refine wlg 18 19 rfl rfl rfl rfl rfl rfl rfl rfl (wo_run rfl rfl (run_move rfl rfl) (wlg 19 20 rfl rfl rfl rfl rfl rfl rfl rfl (wo_run rfl rfl (run_eql rfl rfl rfl) (wlg 20 21 rfl rfl rfl rfl rfl rfl rfl rfl (wo_run rfl rfl (run_move rfl rfl) ?_)))))
      refine wl_split (t := 34) rfl (fun hg34 => ?_) (fun hg34 => ?_)
      ·replace hg34 := of_decide_eq_true hg34
       refine wlg 21 22 rfl rfl rfl rfl rfl rfl rfl rfl (wo_run rfl rfl (run_move rfl rfl) (wlg 22 23 rfl rfl rfl rfl rfl rfl rfl rfl (wo_run rfl rfl (run_move rfl rfl) (wlg 23 24 rfl rfl rfl rfl rfl rfl rfl rfl (wo_run rfl rfl (run_indexM (C := cdT2) k rfl rfl rfl sl42 (by first | rfl | omega) hl (by first | omega | (simp only [lens]; omega))) ?_)))))
       refine wlg 24 25 rfl rfl rfl rfl rfl rfl rfl rfl (wo_run rfl rfl (run_fieldAddr rfl rfl Tryz.underlying97 rfl (ce3) (nf3)) (wlg 25 26 rfl rfl rfl rfl rfl rfl rfl rfl (wo_run rfl rfl (run_load1 rfl rfl Tryz.underlying3 rfl (hl.cell S2.m (i := k) (by first | omega | (simp only [lens]; omega)) 1 rfl rfl)) ?_)))
       refine wlg 26 27 rfl rfl rfl rfl rfl rfl rfl rfl (wo_run rfl rfl (run_move rfl rfl) (wlg 27 28 rfl rfl rfl rfl rfl rfl rfl rfl (wo_run rfl rfl (run_lss rfl rfl rfl) (wlg 28 29 rfl rfl rfl rfl rfl rfl rfl rfl (wo_run rfl rfl (run_pickT rfl rfl rfl) (wlg 29 30 rfl rfl rfl rfl rfl rfl rfl rfl (wo_run rfl rfl (run_pickF rfl rfl rfl) (wlo 30 31 rfl rfl rfl (wo_run rfl rfl (run_pickT rfl rfl rfl) (wl_end rfl (nmk [0, 1, 2, 3, 9, 44] rfl (nm_thn ?_))))))))))))
       refine ws_condN Put2_n21 Put2_n22 rfl rfl rfl rfl (fun hb44 => ?_) (fun hb44 => ?_)
       ·replace hb44 := of_decide_eq_true hb44
        refine ws_skip rfl (nmk [0, 1, 2, 3, 9] rfl (nm_thn (ws_blockN Put2_n23 1 rfl rfl rfl (ws_region rfl (wlm 0 1 rfl rfl rfl rfl rfl rfl rfl (wlo 1 2 rfl rfl rfl (wo_run rfl rfl (run_add rfl rfl rfl (by first | omega | (simp only [lens]; omega))) ?_)))))))
        refine wla 2 3 rfl rfl rfl rfl rfl rfl rfl (wl_end rfl (nm_blk (nm_lp ?_)))
        intro ax_ hax_
        refine ⟨_, ?hq3m, ⟨k + 1, _, (hle2), rfl, hax_.sub ⟨rfl, rfl, rfl, rfl, rfl, trivial⟩, S2.pick [] [] (by decide) trivial, ?hq3f0, ?hq3f1⟩⟩
        case hq3f0 => omega
        case hq3f1 => (intro j hj; by_cases h : j = k; (subst h; omega); exact hlt j (by omega))
        case hq3m => omega
       ·replace hb44 := of_decide_eq_false hb44
        refine ws_exit rfl rfl (nm_lp ?_)
        intro ax_ hax_
        refine ⟨k, _, (hle2), hax_.sub ⟨rfl, rfl, rfl, rfl, rfl, trivial⟩, S2.pick [] [] (by decide) trivial, ?hq4f0, ?hq4f1, ?hq4f2⟩
        case hq4f0 => omega
        case hq4f1 => exact hlt
        case hq4f2 => omega
      ·replace hg34 := of_decide_eq_false hg34
       refine wln 21 22 rfl rfl rfl rfl rfl rfl rfl rfl rfl (wln 22 23 rfl rfl rfl rfl rfl rfl rfl rfl rfl (wln 23 24 rfl rfl rfl rfl rfl rfl rfl rfl rfl (wln 24 25 rfl rfl rfl rfl rfl rfl rfl rfl rfl (wln 25 26 rfl rfl rfl rfl rfl rfl rfl rfl rfl (wln 26 27 rfl rfl rfl rfl rfl rfl rfl rfl rfl (wln 27 28 rfl rfl rfl rfl rfl rfl rfl rfl rfl (wlg 28 29 rfl rfl rfl rfl rfl rfl rfl rfl (wo_run rfl rfl (run_pickF rfl rfl rfl) (wlg 29 30 rfl rfl rfl rfl rfl rfl rfl rfl (wo_run rfl rfl (run_pickF rfl rfl rfl) ?_))))))))))
       refine wlo 30 31 rfl rfl rfl (wo_run rfl rfl (run_pickT rfl rfl rfl) (wl_end rfl (nmk [0, 1, 2, 3, 9, 44] rfl (nm_thn (ws_condFN Put2_n22 rfl rfl rfl (ws_exit rfl rfl (nm_lp ?_)))))))
       intro ax_ hax_
       refine ⟨k, _, (hle2), hax_.sub ⟨rfl, rfl, rfl, rfl, rfl, trivial⟩, S2.pick [] [] (by decide) trivial, ?hq5f0, ?hq5f1, ?hq5f2⟩
       case hq5f0 => omega
       case hq5f1 => exact hlt
       case hq5f2 => omega
    ·replace hg18 := of_decide_eq_false hg18
     refine wln 5 6 rfl rfl rfl rfl rfl rfl rfl rfl rfl (wln 6 7 rfl rfl rfl rfl rfl rfl rfl rfl rfl (wln 7 8 rfl rfl rfl rfl rfl rfl rfl rfl rfl (wln 8 9 rfl rfl rfl rfl rfl rfl rfl rfl rfl (wln 9 10 rfl rfl rfl rfl rfl rfl rfl rfl rfl (wln 10 11 rfl rfl rfl rfl rfl rfl rfl rfl rfl (wln 11 12 rfl rfl rfl rfl rfl rfl rfl rfl rfl (wln 12 13 rfl rfl rfl rfl rfl rfl rfl rfl rfl (wln 13 14 rfl rfl rfl rfl rfl rfl rfl rfl rfl ?_))))))))
     refine wln 14 15 rfl rfl rfl rfl rfl rfl rfl rfl rfl (wln 15 16 rfl rfl rfl rfl rfl rfl rfl rfl rfl (wln 16 17 rfl rfl rfl rfl rfl rfl rfl rfl rfl (wln 17 18 rfl rfl rfl rfl rfl rfl rfl rfl rfl (wln 18 19 rfl rfl rfl rfl rfl rfl rfl rfl rfl (wln 19 20 rfl rfl rfl rfl rfl rfl rfl rfl rfl (wln 20 21 rfl rfl rfl rfl rfl rfl rfl rfl rfl (wln 21 22 rfl rfl rfl rfl rfl rfl rfl rfl rfl (wln 22 23 rfl rfl rfl rfl rfl rfl rfl rfl rfl ?_))))))))
     refine wln 23 24 rfl rfl rfl rfl rfl rfl rfl rfl rfl (wln 24 25 rfl rfl rfl rfl rfl rfl rfl rfl rfl (wln 25 26 rfl rfl rfl rfl rfl rfl rfl rfl rfl (wln 26 27 rfl rfl rfl rfl rfl rfl rfl rfl rfl (wln 27 28 rfl rfl rfl rfl rfl rfl rfl rfl rfl (wln 28 29 rfl rfl rfl rfl rfl rfl rfl rfl rfl (wln 29 30 rfl rfl rfl rfl rfl rfl rfl rfl rfl (wlo 30 31 rfl rfl rfl (wo_run rfl rfl (run_pickF rfl rfl rfl) (wl_end rfl ?_)))))))))
     refine nmk [0, 1, 2, 3, 9, 44] rfl (nm_thn (ws_condFN Put2_n22 rfl rfl rfl (ws_exit rfl rfl (nm_lp ?_))))
     intro ax_ hax_
     refine ⟨k, _, (hle2), hax_.sub ⟨rfl, rfl, rfl, rfl, rfl, trivial⟩, S2.pick [] [] (by decide) trivial, ?hq6f0, ?hq6f1, ?hq6f2⟩
     case hq6f0 => omega
     case hq6f1 => exact hlt
     case hq6f2 => omega
  ·rintro a2 w1 ⟨k, M1, hle1, he1, S1, hk, hlt, hnd⟩
   clear S
   refine nm_in he1 ?_
   clear he1 a2
   replace hl := hl.mono hle1
   refine nm_thn (ws_seqN Put2_n24 Put2_n25 rfl rfl rfl (ws_region rfl (wla 0 1 rfl rfl rfl rfl rfl rfl rfl (wl_end rfl (nm_thn (ws_seqN Put2_n26 Put2_n27 rfl rfl rfl (ws_region rfl (wlm 0 1 rfl rfl rfl rfl rfl rfl rfl ?_))))))))
   refine wlm 1 2 rfl rfl rfl rfl rfl rfl rfl (wlm 2 3 rfl rfl rfl rfl rfl rfl rfl (wlo 3 4 rfl rfl rfl (wo_sliceT (C := cdT2) k rfl rfl rfl rfl rfl sl42 (by first | rfl | omega) (by first | omega | (simp only [lens]; omega)) hl ?_)))
   intro A1 c1 hr1
   have S3 := S1.nilrow cdT2; clear S1
   refine wlo 4 5 rfl rfl rfl (wo_appendM (C := cdT2) (i := 0) rfl rfl rfl rfl rfl rfl rfl rfl sl42 S3 rfl hr1 S3.m (by show (0 + _) * 24 ≤ _; rw [List.length_take]; omega) ?_)
   intro vr2 w3 S4; clear S3
   change SH _ _ _ [Rs.row cdT2 vr2 (l.take k)] at S4
   refine wla 5 6 rfl rfl rfl rfl rfl rfl rfl (wl_end rfl (nmk [0, 1, 2, 3, 9, 10] rfl (nm_thn (ws_seqN Put2_n28 Put2_n29 rfl rfl rfl ?_))))
   refine ws_cut (fun ax_ wx_ => ∃ (k2 : Nat) (acc : List T2) (vro : Value) (M3 : Hp), M1.le M3 ∧ Env 109 [(0, .slice lA l.length lc), (9, .int .i64 (k2 : Int)), (10, vro)] ax_ ∧ SH wx_ M3 X [Rs.row cdT2 vro acc] ∧ put2 l x z c = acc ++ l.drop k2 ∧ k2 ≤ l.length ∧ acc.length ≤ l.length + 1) ?_ ?_
   ·refine ws_seqN Put2_n30 Put2_n31 rfl rfl rfl (ws_region rfl (wlm 0 1 rfl rfl rfl rfl rfl rfl rfl (wlm 1 2 rfl rfl rfl rfl rfl rfl rfl (wlo 2 3 rfl rfl rfl (wo_run rfl rfl (run_len rfl rfl rfl rfl rfl rfl Tryz.underlying42) (wlo 3 4 rfl rfl rfl (wo_run rfl rfl (run_lss rfl rfl rfl) (wlm 4 5 rfl rfl rfl rfl rfl rfl rfl ?_))))))))
    refine wl_split (t := 56) rfl (fun hg56 => ?_) (fun hg56 => ?_)
    ·replace hg56 := of_decide_eq_true hg56
     refine wlg 5 6 rfl rfl rfl rfl rfl rfl rfl rfl (wo_run rfl rfl (run_move rfl rfl) (wlg 6 7 rfl rfl rfl rfl rfl rfl rfl rfl (wo_run rfl rfl (run_move rfl rfl) (wlg 7 8 rfl rfl rfl rfl rfl rfl rfl rfl (wo_run rfl rfl (run_indexM (C := cdT2) k rfl rfl rfl sl42 (by first | rfl | omega) hl (by first | omega | (simp only [lens]; omega))) ?_)))))
     refine wlg 8 9 rfl rfl rfl rfl rfl rfl rfl rfl (wo_run rfl rfl (run_fieldAddr rfl rfl Tryz.underlying97 rfl (ce3) (nf3)) (wlg 9 10 rfl rfl rfl rfl rfl rfl rfl rfl (wo_run rfl rfl (run_load1 rfl rfl Tryz.underlying3 rfl (hl.cell S4.m (i := k) (by first | omega | (simp only [lens]; omega)) 0 rfl rfl)) ?_)))
     refine wlg 10 11 rfl rfl rfl rfl rfl rfl rfl rfl (wo_run rfl rfl (run_move rfl rfl) (wlg 11 12 rfl rfl rfl rfl rfl rfl rfl rfl (wo_run rfl rfl (run_eql rfl rfl rfl) (wlo 12 13 rfl rfl rfl (wo_run rfl rfl (run_pickT rfl rfl rfl) (wlm 13 14 rfl rfl rfl rfl rfl rfl rfl ?_))))))
     refine wl_split (t := 65) rfl (fun hg65 => ?_) (fun hg65 => ?_)
     ·replace hg65 := of_decide_eq_true hg65
      refine wlg 14 15 rfl rfl rfl rfl rfl rfl rfl rfl (wo_run rfl rfl (run_move rfl rfl) (wlg 15 16 rfl rfl rfl rfl rfl rfl rfl rfl (wo_run rfl rfl (run_move rfl rfl) (wlg 16 17 rfl rfl rfl rfl rfl rfl rfl rfl (wo_run rfl rfl (run_indexM (C := cdT2) k rfl rfl rfl sl42 (by first | rfl | omega) hl (by first | omega | (simp only [lens]; omega))) ?_)))))
      refine wlg 17 18 rfl rfl rfl rfl rfl rfl rfl rfl (wo_run rfl rfl (run_fieldAddr rfl rfl Tryz.underlying97 rfl (ce3) (nf3)) (wlg 18 19 rfl rfl rfl rfl rfl rfl rfl rfl (wo_run rfl rfl (run_load1 rfl rfl Tryz.underlying3 rfl (hl.cell S4.m (i := k) (by first | omega | (simp only [lens]; omega)) 1 rfl rfl)) ?_)))
      refine wlg 19 20 rfl rfl rfl rfl rfl rfl rfl rfl (wo_run rfl rfl (run_move rfl rfl) (wlg 20 21 rfl rfl rfl rfl rfl rfl rfl rfl (wo_run rfl rfl (run_eql rfl rfl rfl) (wlo 21 22 rfl rfl rfl (wo_run rfl rfl (run_pickT rfl rfl rfl) (wl_end rfl (nmk [0, 1, 2, 3, 9, 10, 73] rfl (nm_thn ?_))))))))
      refine ws_condN Put2_n32 Put2_n33 rfl rfl rfl rfl (fun hb73 => ?_) (fun hb73 => ?_)
      ·replace hb73 := of_decide_eq_true hb73
       refine ws_seqN Put2_n34 Put2_n35 rfl rfl rfl (ws_seqN Put2_n36 Put2_n37 rfl rfl rfl (ws_region rfl (wlm 0 1 rfl rfl rfl rfl rfl rfl rfl (wlm 1 2 rfl rfl rfl rfl rfl rfl rfl (wlo 2 3 rfl rfl rfl (wo_run rfl rfl (run_indexM (C := cdT2) k rfl rfl rfl sl42 (by first | rfl | omega) hl (by first | omega | (simp only [lens]; omega))) ?_))))))
       refine wlo 3 4 rfl rfl rfl (wo_run rfl rfl (run_fieldAddr rfl rfl Tryz.underlying97 rfl (ce3) (nf3)) (wlo 4 5 rfl rfl rfl (wo_run rfl rfl (run_load1 rfl rfl Tryz.underlying3 rfl (hl.cell S4.m (i := k) (by first | omega | (simp only [lens]; omega)) 2 rfl rfl)) ?_)))
       refine wlm 5 6 rfl rfl rfl rfl rfl rfl rfl (wlo 6 7 rfl rfl rfl (wo_run rfl rfl (run_addW rfl rfl rfl) (wlo 7 8 rfl rfl rfl (wo_run rfl rfl (run_neq rfl rfl rfl) (wl_end rfl (nmk [0, 1, 2, 3, 9, 10, 81] rfl (nm_thn ?_)))))))
       refine ws_condN Put2_n38 Put2_n39 rfl rfl rfl rfl (fun hb81 => ?_) (fun hb81 => ?_)
       ·replace hb81 := of_decide_eq_true hb81
        refine ws_region rfl (wlm 0 1 rfl rfl rfl rfl rfl rfl rfl (wlm 1 2 rfl rfl rfl rfl rfl rfl rfl (wlm 2 3 rfl rfl rfl rfl rfl rfl rfl (wlm 3 4 rfl rfl rfl rfl rfl rfl rfl (wlm 4 5 rfl rfl rfl rfl rfl rfl rfl (wlo 5 6 rfl rfl rfl (wo_run rfl rfl (run_indexM (C := cdT2) k rfl rfl rfl sl42 (by first | rfl | omega) hl (by first | omega | (simp only [lens]; omega))) ?_)))))))
        refine wlo 6 7 rfl rfl rfl (wo_run rfl rfl (run_fieldAddr rfl rfl Tryz.underlying97 rfl (ce3) (nf3)) (wlo 7 8 rfl rfl rfl (wo_run rfl rfl (run_load1 rfl rfl Tryz.underlying3 rfl (hl.cell S4.m (i := k) (by first | omega | (simp only [lens]; omega)) 2 rfl rfl)) ?_)))
        refine wlm 8 9 rfl rfl rfl rfl rfl rfl rfl (wlo 9 10 rfl rfl rfl (wo_run rfl rfl (run_addW rfl rfl rfl) (wlo 10 11 rfl rfl rfl (wo_run rfl rfl (run_build (l := [_, _, _]) rfl rfl st97 rfl rfl) (wlo 11 12 rfl rfl rfl (wo_buildSlice1 (C := cdT2) (l := [_, _, _]) rfl rfl rfl rfl sl42 rfl rfl rfl rfl S4 ?_))))))
        intro gb1 w5 S6; clear S4
        refine wlo 12 13 rfl rfl rfl (wo_append1 (C := cdT2) (i := 1) (q := 0) (⟨x, z, wr (((ga l k).c) + c)⟩ : T2) rfl rfl rfl rfl rfl rfl rfl rfl sl42 S6 rfl rfl rfl (by show (_ + 1) * 24 ≤ _; first | omega | (simp only [List.length_append, List.length_take, List.length_cons, List.length_nil, List.length_map]; omega)) ?_)
        intro vr3 w6 S7; clear S6
        have S8 := S7.pick [1] [_] (by decide) ⟨rfl, trivial⟩; clear S7
        refine wla 13 14 rfl rfl rfl rfl rfl rfl rfl (wl_end rfl (nmk [0, 9, 10] rfl (nm_thn (ws_region rfl (wlm 0 1 rfl rfl rfl rfl rfl rfl rfl (wlo 1 2 rfl rfl rfl (wo_run rfl rfl (run_add rfl rfl rfl (by first | omega | (simp only [lens]; omega))) ?_)))))))
        refine wla 2 3 rfl rfl rfl rfl rfl rfl rfl (wl_end rfl (nm_lp ?_))
        intro ax_ hax_
        refine ⟨k + 1, (l.take k) ++ [(⟨x, z, wr (((ga l k).c) + c)⟩ : T2)], _, _, (Hp.le_refl _), hax_.sub ⟨rfl, rfl, rfl, trivial⟩, S8.pick [0] [_] (by decide) ⟨rfl, trivial⟩, ?hq7f0, ?hq7f1, ?hq7f2⟩
        case hq7f0 => (rw [put2_eq (k := k) hk hlt hb12 hnd]; first | (rw [if_pos (show k < l.length ∧ (ga l k).x = x ∧ (ga l k).z = z by omega)]; first | (rw [if_pos (show wr ((ga l k).c + c) = 0 by omega)]; simp) | (rw [if_neg (show ¬ wr ((ga l k).c + c) = 0 by omega)]; simp)) | (rw [if_neg (show ¬ (k < l.length ∧ (ga l k).x = x ∧ (ga l k).z = z) by omega)]; simp))
        case hq7f1 => omega
        case hq7f2 => (simp only [List.length_append, List.length_take, List.length_cons, List.length_nil]; omega)
       ·replace hb81 := of_decide_eq_false hb81
        refine ws_skip rfl (nmk [0, 9, 10] rfl (nm_thn (ws_region rfl (wlm 0 1 rfl rfl rfl rfl rfl rfl rfl (wlo 1 2 rfl rfl rfl (wo_run rfl rfl (run_add rfl rfl rfl (by first | omega | (simp only [lens]; omega))) ?_))))))
        refine wla 2 3 rfl rfl rfl rfl rfl rfl rfl (wl_end rfl (nm_lp ?_))
        intro ax_ hax_
        refine ⟨k + 1, l.take k, _, _, (Hp.le_refl _), hax_.sub ⟨rfl, rfl, rfl, trivial⟩, S4.pick [0] [_] (by decide) ⟨rfl, trivial⟩, ?hq8f0, ?hq8f1, ?hq8f2⟩
        case hq8f0 => (rw [put2_eq (k := k) hk hlt hb12 hnd]; first | (rw [if_pos (show k < l.length ∧ (ga l k).x = x ∧ (ga l k).z = z by omega)]; first | (rw [if_pos (show wr ((ga l k).c + c) = 0 by omega)]; simp) | (rw [if_neg (show ¬ wr ((ga l k).c + c) = 0 by omega)]; simp)) | (rw [if_neg (show ¬ (k < l.length ∧ (ga l k).x = x ∧ (ga l k).z = z) by omega)]; simp))
        case hq8f1 => omega
        case hq8f2 => (simp only [List.length_append, List.length_take, List.length_cons, List.length_nil]; omega)
      ·replace hb73 := of_decide_eq_false hb73
       refine ws_region rfl (wlm 0 1 rfl rfl rfl rfl rfl rfl rfl (wlm 1 2 rfl rfl rfl rfl rfl rfl rfl (wlm 2 3 rfl rfl rfl rfl rfl rfl rfl (wlm 3 4 rfl rfl rfl rfl rfl rfl rfl (wlo 4 5 rfl rfl rfl (wo_run rfl rfl (run_build (l := [_, _, _]) rfl rfl st97 rfl rfl) (wlo 5 6 rfl rfl rfl (wo_buildSlice1 (C := cdT2) (l := [_, _, _]) rfl rfl rfl rfl sl42 rfl rfl rfl rfl S4 ?_))))))))
       intro gb2 w7 S9; clear S4
       refine wlo 6 7 rfl rfl rfl (wo_append1 (C := cdT2) (i := 1) (q := 0) (⟨x, z, c⟩ : T2) rfl rfl rfl rfl rfl rfl rfl rfl sl42 S9 rfl rfl rfl (by show (_ + 1) * 24 ≤ _; first | omega | (simp only [List.length_append, List.length_take, List.length_cons, List.length_nil, List.length_map]; omega)) ?_)
       intro vr4 w8 S10; clear S9
       have S11 := S10.pick [1] [_] (by decide) ⟨rfl, trivial⟩; clear S10
       refine wla 7 8 rfl rfl rfl rfl rfl rfl rfl (wl_end rfl (nm_lp ?_))
       intro ax_ hax_
       refine ⟨k, (l.take k) ++ [(⟨x, z, c⟩ : T2)], _, _, (Hp.le_refl _), hax_.sub ⟨rfl, rfl, rfl, trivial⟩, S11.pick [0] [_] (by decide) ⟨rfl, trivial⟩, ?hq9f0, ?hq9f1, ?hq9f2⟩
       case hq9f0 => (rw [put2_eq (k := k) hk hlt hb12 hnd]; first | (rw [if_pos (show k < l.length ∧ (ga l k).x = x ∧ (ga l k).z = z by omega)]; first | (rw [if_pos (show wr ((ga l k).c + c) = 0 by omega)]; simp) | (rw [if_neg (show ¬ wr ((ga l k).c + c) = 0 by omega)]; simp)) | (rw [if_neg (show ¬ (k < l.length ∧ (ga l k).x = x ∧ (ga l k).z = z) by omega)]; simp))
       case hq9f1 => omega
       case hq9f2 => (simp only [List.length_append, List.length_take, List.length_cons, List.length_nil]; omega)
     ·replace hg65 := of_decide_eq_false hg65
      refine wln 14 15 rfl rfl rfl rfl rfl rfl rfl rfl rfl (wln 15 16 rfl rfl rfl rfl rfl rfl rfl rfl rfl (wln 16 17 rfl rfl rfl rfl rfl rfl rfl rfl rfl (wln 17 18 rfl rfl rfl rfl rfl rfl rfl rfl rfl (wln 18 19 rfl rfl rfl rfl rfl rfl rfl rfl rfl (wln 19 20 rfl rfl rfl rfl rfl rfl rfl rfl rfl (wln 20 21 rfl rfl rfl rfl rfl rfl rfl rfl rfl (wlo 21 22 rfl rfl rfl (wo_run rfl rfl (run_pickF rfl rfl rfl) (wl_end rfl ?_)))))))))
      refine nmk [0, 1, 2, 3, 9, 10, 73] rfl (nm_thn (ws_condFN Put2_n33 rfl rfl rfl (ws_region rfl (wlm 0 1 rfl rfl rfl rfl rfl rfl rfl (wlm 1 2 rfl rfl rfl rfl rfl rfl rfl (wlm 2 3 rfl rfl rfl rfl rfl rfl rfl (wlm 3 4 rfl rfl rfl rfl rfl rfl rfl (wlo 4 5 rfl rfl rfl (wo_run rfl rfl (run_build (l := [_, _, _]) rfl rfl st97 rfl rfl) ?_)))))))))
      refine wlo 5 6 rfl rfl rfl (wo_buildSlice1 (C := cdT2) (l := [_, _, _]) rfl rfl rfl rfl sl42 rfl rfl rfl rfl S4 ?_)
      intro gb3 w9 S12; clear S4
      refine wlo 6 7 rfl rfl rfl (wo_append1 (C := cdT2) (i := 1) (q := 0) (⟨x, z, c⟩ : T2) rfl rfl rfl rfl rfl rfl rfl rfl sl42 S12 rfl rfl rfl (by show (_ + 1) * 24 ≤ _; first | omega | (simp only [List.length_append, List.length_take, List.length_cons, List.length_nil, List.length_map]; omega)) ?_)
      intro vr5 w10 S13; clear S12
      have S14 := S13.pick [1] [_] (by decide) ⟨rfl, trivial⟩; clear S13
      refine wla 7 8 rfl rfl rfl rfl rfl rfl rfl (wl_end rfl (nm_lp ?_))
      intro ax_ hax_
      refine ⟨k, (l.take k) ++ [(⟨x, z, c⟩ : T2)], _, _, (Hp.le_refl _), hax_.sub ⟨rfl, rfl, rfl, trivial⟩, S14.pick [0] [_] (by decide) ⟨rfl, trivial⟩, ?hq10f0, ?hq10f1, ?hq10f2⟩
      case hq10f0 => (rw [put2_eq (k := k) hk hlt hb12 hnd]; first | (rw [if_pos (show k < l.length ∧ (ga l k).x = x ∧ (ga l k).z = z by omega)]; first | (rw [if_pos (show wr ((ga l k).c + c) = 0 by omega)]; simp) | (rw [if_neg (show ¬ wr ((ga l k).c + c) = 0 by omega)]; simp)) | (rw [if_neg (show ¬ (k < l.length ∧ (ga l k).x = x ∧ (ga l k).z = z) by omega)]; simp))
      case hq10f1 => omega
      case hq10f2 => (simp only [List.length_append, List.length_take, List.length_cons, List.length_nil]; omega)
    ·replace hg56 := of_decide_eq_false hg56
     refine wln 5 6 rfl rfl rfl rfl rfl rfl rfl rfl rfl (wln 6 7 rfl rfl rfl rfl rfl rfl rfl rfl rfl (wln 7 8 rfl rfl rfl rfl rfl rfl rfl rfl rfl (wln 8 9 rfl rfl rfl rfl rfl rfl rfl rfl rfl (wln 9 10 rfl rfl rfl rfl rfl rfl rfl rfl rfl (wln 10 11 rfl rfl rfl rfl rfl rfl rfl rfl rfl (wln 11 12 rfl rfl rfl rfl rfl rfl rfl rfl rfl (wlo 12 13 rfl rfl rfl (wo_run rfl rfl (run_pickF rfl rfl rfl) (wlm 13 14 rfl rfl rfl rfl rfl rfl rfl ?_)))))))))
     refine wln 14 15 rfl rfl rfl rfl rfl rfl rfl rfl rfl (wln 15 16 rfl rfl rfl rfl rfl rfl rfl rfl rfl (wln 16 17 rfl rfl rfl rfl rfl rfl rfl rfl rfl (wln 17 18 rfl rfl rfl rfl rfl rfl rfl rfl rfl (wln 18 19 rfl rfl rfl rfl rfl rfl rfl rfl rfl (wln 19 20 rfl rfl rfl rfl rfl rfl rfl rfl rfl (wln 20 21 rfl rfl rfl rfl rfl rfl rfl rfl rfl (wlo 21 22 rfl rfl rfl (wo_run rfl rfl (run_pickF rfl rfl rfl) (wl_end rfl ?_)))))))))
     refine nmk [0, 1, 2, 3, 9, 10, 73] rfl (nm_thn (ws_condFN Put2_n33 rfl rfl rfl (ws_region rfl (wlm 0 1 rfl rfl rfl rfl rfl rfl rfl (wlm 1 2 rfl rfl rfl rfl rfl rfl rfl (wlm 2 3 rfl rfl rfl rfl rfl rfl rfl (wlm 3 4 rfl rfl rfl rfl rfl rfl rfl (wlo 4 5 rfl rfl rfl (wo_run rfl rfl (run_build (l := [_, _, _]) rfl rfl st97 rfl rfl) ?_)))))))))
     refine wlo 5 6 rfl rfl rfl (wo_buildSlice1 (C := cdT2) (l := [_, _, _]) rfl rfl rfl rfl sl42 rfl rfl rfl rfl S4 ?_)
     intro gb4 w11 S15; clear S4
     refine wlo 6 7 rfl rfl rfl (wo_append1 (C := cdT2) (i := 1) (q := 0) (⟨x, z, c⟩ : T2) rfl rfl rfl rfl rfl rfl rfl rfl sl42 S15 rfl rfl rfl (by show (_ + 1) * 24 ≤ _; first | omega | (simp only [List.length_append, List.length_take, List.length_cons, List.length_nil, List.length_map]; omega)) ?_)
     intro vr6 w12 S16; clear S15
     have S17 := S16.pick [1] [_] (by decide) ⟨rfl, trivial⟩; clear S16
     refine wla 7 8 rfl rfl rfl rfl rfl rfl rfl (wl_end rfl (nm_lp ?_))
     intro ax_ hax_
     refine ⟨k, (l.take k) ++ [(⟨x, z, c⟩ : T2)], _, _, (Hp.le_refl _), hax_.sub ⟨rfl, rfl, rfl, trivial⟩, S17.pick [0] [_] (by decide) ⟨rfl, trivial⟩, ?hq11f0, ?hq11f1, ?hq11f2⟩
     case hq11f0 => (rw [put2_eq (k := k) hk hlt hb12 hnd]; first | (rw [if_pos (show k < l.length ∧ (ga l k).x = x ∧ (ga l k).z = z by omega)]; first | (rw [if_pos (show wr ((ga l k).c + c) = 0 by omega)]; simp) | (rw [if_neg (show ¬ wr ((ga l k).c + c) = 0 by omega)]; simp)) | (rw [if_neg (show ¬ (k < l.length ∧ (ga l k).x = x ∧ (ga l k).z = z) by omega)]; simp))
     case hq11f1 => omega
     case hq11f2 => (simp only [List.length_append, List.length_take, List.length_cons, List.length_nil]; omega)
   ·rintro a3 w4 ⟨k2, acc, vro, M3, hle3, he3, S5, hpe, hk2, hal⟩
    clear S4
    refine nm_in he3 ?_
    clear he3 a3
    replace hl := hl.mono hle3
    replace hr1 := hr1.mono hle3
    refine nm_thn (ws_seqN Put2_n40 Put2_n41 rfl rfl rfl (ws_region rfl (wlm 0 1 rfl rfl rfl rfl rfl rfl rfl (wlm 1 2 rfl rfl rfl rfl rfl rfl rfl (wlm 2 3 rfl rfl rfl rfl rfl rfl rfl (wlo 3 4 rfl rfl rfl (wo_sliceD (C := cdT2) k2 rfl rfl rfl rfl rfl sl42 (by first | rfl | omega) (by first | omega | (simp only [lens]; omega)) hl ?_)))))))
    intro A2 c2 hr2
    refine wlo 4 5 rfl rfl rfl (wo_appendM (C := cdT2) (i := 0) rfl rfl rfl rfl rfl rfl rfl rfl sl42 S5 rfl hr2 S5.m (by (show (_ + _) * 24 ≤ _; have e3 := put2_len l x z c; rw [hpe, List.length_append] at e3; omega)) ?_)
    intro vro1 w13 S18; clear S5
    change SH _ _ _ [Rs.row cdT2 vro1 (acc ++ (l.drop k2))] at S18
    refine wla 5 6 rfl rfl rfl rfl rfl rfl rfl (wl_end rfl (nmk [8] rfl (nm_thn ?_)))
    obtain ⟨M4, hle4, S19, ⟨A3, c3, e1, hr3⟩⟩ := S18.pubrow (i := 0) (H' := [_]) rfl rfl (by (show _ * 24 ≤ _; have e3 := put2_len l x z c; rw [hpe] at e3; omega))
    clear S18; subst e1
    replace hl := hl.mono hle4
    replace hr1 := hr1.mono hle4
    replace hr2 := hr2.mono hle4
    refine ws_ret hC [_] rfl rfl ⟨rfl, trivial⟩ ?_
    refine ⟨_, rfl, _, (hle1.trans hle3).trans hle4, (S19.pick [] [] (by decide) trivial), ?_⟩
    rw [hpe]
    exact ⟨_, _, rfl, hr3⟩
end Go.Proofs.YthppkofceancjaaGreat
namespace Go.Proofs.YthppkofceancjaaGreat
open Go.ChangeShapes Go.WideShapes Go.ChangeAt Go.RowKit
theorem ringF_cnt {nx : Nat → Nat} (seen : List Bool) (x : Nat) (acc : List Int) : ((ringF nx seen x acc).2).length ≤ acc.length + free seen := by
 induction hk : free seen using Nat.strongRecOn generalizing seen x acc with
 | _ k ih =>
  by_cases h : x < seen.length ∧ ga seen x = false
  ·rw [ringF_go h.1 h.2]
   have h1 := free_set h.1 h.2
   have h2 := ih (free (seen.set x true)) (by omega) _ (nx x) (acc ++ [(x : Int)]) rfl
   rw [List.length_append, List.length_singleton] at h2
   omega
  ·rw [ringF]
   simp only [h, dite_false]
   omega
theorem ringsF_cnt {nx : Nat → Nat} (K A : Nat) : ∀ r ∈ (ringsF nx K A).2, r.length ≤ K := by
 induction A with
 | zero => intro r hr; simp [ringsF] at hr
 | succ A ih =>
  by_cases h : ga (ringsF nx K A).1 (A + 1) = true
  ·rw [ringsF_skip h]; exact ih
  ·rw [ringsF_ring (by simpa using h)]
   intro r hr
   rcases List.mem_append.1 hr with hr | hr
   ·exact ih r hr
   ·rw [List.mem_singleton] at hr
    subst hr
    have h1 := ringF_cnt (nx := nx) (ringsF nx K A).1 (A + 1) []
    have h2 : free (ringsF nx K A).1 ≤ (ringsF nx K A).1.length := List.countP_le_length
    have h3 := ringsF_len nx K A
    simp only [List.length_nil] at h1
    omega
theorem ring_many {d : Dg} {i : Nat} (hi : i < (strandsL d).length) : (ga (strandsL d) i).length ≤ 2 * d.crs.length + 1 := ringsF_cnt (nx := nextN d) (2 * d.crs.length + 1) (2 * d.crs.length) _ (by rw [ga_eq hi]; exact List.getElem_mem hi)
def LsOk (l : List Int) (sn : List Nat) : Prop := ∀ n : Nat, l.contains (n : Int) = decide (n ∈ sn)
theorem LsOk.nil_ : LsOk [] [] := fun n => by simp
theorem LsOk.put {l : List Int} {sn : List Nat} (h : LsOk l sn) (k : Nat) : LsOk (l ++ [(k : Int)]) (k :: sn) := fun n => by
 have h1 := h n
 by_cases e : n = k
 ·subst e; simp
 ·have e2 : ¬ (n : Int) = (k : Int) := by omega
  rw [Bool.eq_iff_iff] at h1 ⊢
  simp only [List.contains_iff_mem, decide_eq_true_eq] at h1 ⊢
  rw [List.mem_append, List.mem_singleton, List.mem_cons, h1]
  exact ⟨fun h => h.elim .inr fun h => absurd h e2, fun h => h.elim (fun h => absurd h e) .inl⟩
noncomputable def firstBelow_n0 : Code := Tryz.f50.body.getD .skip
noncomputable def firstBelow_n1 : Code := cL firstBelow_n0
noncomputable def firstBelow_n2 : Code := cR firstBelow_n0
noncomputable def firstBelow_n3 : Code := cL firstBelow_n2
noncomputable def firstBelow_n4 : Code := cR firstBelow_n2
noncomputable def firstBelow_n5 : Code := cL firstBelow_n4
noncomputable def firstBelow_n6 : Code := cR firstBelow_n4
noncomputable def firstBelow_n7 : Code := cL firstBelow_n6
noncomputable def firstBelow_n8 : Code := cR firstBelow_n6
noncomputable def firstBelow_n9 : Code := cL firstBelow_n7
noncomputable def firstBelow_n10 : Code := cR firstBelow_n7
noncomputable def firstBelow_n11 : Code := cL firstBelow_n10
noncomputable def firstBelow_n12 : Code := cL firstBelow_n11
noncomputable def firstBelow_n13 : Code := cL firstBelow_n12
noncomputable def firstBelow_n14 : Code := cR firstBelow_n12
noncomputable def firstBelow_n15 : Code := cL firstBelow_n13
noncomputable def firstBelow_n16 : Code := cR firstBelow_n13
noncomputable def firstBelow_n17 : Code := cL firstBelow_n16
noncomputable def firstBelow_n18 : Code := cR firstBelow_n16
noncomputable def firstBelow_n19 : Code := cL firstBelow_n14
noncomputable def firstBelow_n20 : Code := cR firstBelow_n14
noncomputable def firstBelow_n21 : Code := cL firstBelow_n19
noncomputable def firstBelow_n22 : Code := cL firstBelow_n21
noncomputable def firstBelow_n23 : Code := cR firstBelow_n21
noncomputable def firstBelow_n24 : Code := cL firstBelow_n23
noncomputable def firstBelow_n25 : Code := cL firstBelow_n24
noncomputable def firstBelow_n26 : Code := cL firstBelow_n25
noncomputable def firstBelow_n27 : Code := cR firstBelow_n25
noncomputable def firstBelow_n28 : Code := cL firstBelow_n26
noncomputable def firstBelow_n29 : Code := cR firstBelow_n26
noncomputable def firstBelow_n30 : Code := cL firstBelow_n29
noncomputable def firstBelow_n31 : Code := cR firstBelow_n29
noncomputable def firstBelow_n32 : Code := cL firstBelow_n27
noncomputable def firstBelow_n33 : Code := cR firstBelow_n27
noncomputable def firstBelow_n34 : Code := cL firstBelow_n32
noncomputable def firstBelow_n35 : Code := cL firstBelow_n34
noncomputable def firstBelow_n36 : Code := cR firstBelow_n34
noncomputable def firstBelow_n37 : Code := cL firstBelow_n36
noncomputable def firstBelow_n38 : Code := cR firstBelow_n36
noncomputable def firstBelow_n39 : Code := cL firstBelow_n37
noncomputable def firstBelow_n40 : Code := cR firstBelow_n37
noncomputable def firstBelow_n41 : Code := cL firstBelow_n40
noncomputable def firstBelow_n42 : Code := cR firstBelow_n40
noncomputable def firstBelow_n43 : Code := cL firstBelow_n41
noncomputable def firstBelow_n44 : Code := cR firstBelow_n41
noncomputable def firstBelow_n45 : Code := cL firstBelow_n8
noncomputable def firstBelow_n46 : Code := cR firstBelow_n8
set_option maxHeartbeats 1000000 in
set_option maxRecDepth 10000 in
theorem firstBelow_t {w : World} {M : Hp} {X : Fr} (d : Dg) {dcrsA : Option Addr} {dcrsc : Nat} (hdcrs : RdA cdCr (M.un X.h) dcrsA dcrsc d.crs) (hn : d.crs.length ≤ 16) (hab : arcsB d = true) (S : SH w M X []) : Ct Tryz.prog 50 [.agg [.slice dcrsA d.crs.length dcrsc, .int .i64 d.loops].toArray] w M X (fun u _ => u = .int .i64 (low d)) := by
 unfold Ct
 have rmhdcrs : d.crs.length * 40 ≤ 140737488355328 := hdcrs.room
 have hsl9 := strands_le d (2 * d.crs.length)
 replace hsl9 : (strandsL d).length ≤ 2 * d.crs.length := hsl9
 refine calls_in (b := firstBelow_n0) Tryz.func50 rfl Tryz.ntmps50 rfl (fun C hC => (ws_sub [(0, _)] ⟨rfl, trivial⟩ (ws_seqN firstBelow_n1 firstBelow_n2 rfl rfl rfl (ws_region rfl (wlo 0 1 rfl rfl rfl (wo_box (l := [_, _]) rfl rfl rfl rfl rfl S ?_))))))
 intro gb1 w1 S1; clear S
 refine wla 1 2 rfl rfl rfl rfl rfl rfl rfl (wl_end rfl (nmk [1] rfl (nm_thn (ws_seqN firstBelow_n3 firstBelow_n4 rfl rfl rfl (ws_region rfl (wlo 0 1 rfl rfl rfl (wo_run rfl rfl (run_loadN (us := [_, _]) rfl rfl Tryz.underlying24 rfl sz24 (S1.boxcs (i := 0) rfl ⟨rfl, rfl, trivial⟩)) (wlo 1 2 rfl rfl rfl (wo_ct rfl rfl rfl rfl rfl rfl rfl cf51 S1 (StrandsOf_t d (hdcrs.mono S1.un_XH) (hn) (hab) S1.lend) ?_)))))))))
 intro vw2 w2 M1 hle1 S2 hRw2; clear S1
 replace hdcrs := hdcrs.mono (Hp.un_mono hle1 S2.mx)
 obtain ⟨A1, c1, vs1, rfl, hr1, hd1⟩ := hRw2
 have hlenstrandsL := hd1.1
 refine wla 2 3 rfl rfl rfl rfl rfl rfl rfl (wl_end rfl (nmk [1, 3] rfl (nm_thn (ws_seqN firstBelow_n5 firstBelow_n6 rfl rfl rfl (ws_region rfl (wla 0 1 rfl rfl rfl rfl rfl rfl rfl (wl_end rfl (nm_thn ?_))))))))
 refine ws_seqN firstBelow_n7 firstBelow_n8 rfl rfl rfl (ws_seqN firstBelow_n9 firstBelow_n10 rfl rfl rfl (ws_region rfl (wla 0 1 rfl rfl rfl rfl rfl rfl rfl (wl_end rfl (nm_thn (ws_blockN firstBelow_n11 0 rfl rfl rfl ?_))))))
 have S3 := S2.nilrow cdInt; clear S2
 refine ws_loopE (fun mx_ ax_ wx_ => ∃ (i : Nat) (sn : List Nat) (es : List Int) (vrs : Value), mx_ = (strandsL d).length - i ∧ Env 51 [(1, .pointer (some ⟨gb1, 0, none⟩)), (3, .slice A1 vs1.length c1), (4, vrs), (5, .int .i64 (i : Int))] ax_ ∧ SH wx_ M1 X [Rs.row cdInt vrs es, Rs.box gb1 24 [.slice dcrsA d.crs.length dcrsc, .int .i64 d.loops]] ∧ i ≤ (strandsL d).length ∧ low d = fbF sn (rest0 d i) ∧ LsOk es sn ∧ es.length ≤ 100 * i) rfl ?_ ?_
 ·intro ax_ hax_
  refine ⟨_, ⟨0, [], [], _, rfl, hax_.sub ⟨rfl, rfl, rfl, rfl, trivial⟩, S3.pick [0, 1] [_, _] (by decide) ⟨rfl, rfl, trivial⟩, ?hq1f0, ?hq1f1, ?hq1f2, ?hq1f3⟩⟩
  case hq1f0 => omega
  case hq1f1 => rfl
  case hq1f2 => exact LsOk.nil_
  case hq1f3 => exact Nat.zero_le _
 ·rintro m1 a1 w3 ⟨i, sn, es, vrs, rfl, he1, S4, hi, hf, hse, hel⟩
  clear S3
  refine ws_in he1 (c := firstBelow_n12) rfl ?_
  clear he1 a1
  have hwl : i < (strandsL d).length → (ga (strandsL d) i).length ≤ 2 * d.crs.length + 1 := fun h => ring_many h
  refine ws_seqN firstBelow_n13 firstBelow_n14 rfl rfl rfl (ws_seqN firstBelow_n15 firstBelow_n16 rfl rfl rfl (ws_region rfl (wlm 0 1 rfl rfl rfl rfl rfl rfl rfl (wlm 1 2 rfl rfl rfl rfl rfl rfl rfl (wlo 2 3 rfl rfl rfl (wo_run rfl rfl (run_len rfl rfl rfl rfl rfl rfl Tryz.underlying103) (wlo 3 4 rfl rfl rfl (wo_run rfl rfl (run_lss rfl rfl rfl) (wl_end rfl (nmk [1, 3, 4, 5, 13] rfl ?_))))))))))
  refine nm_thn ?_
  refine ws_condN firstBelow_n17 firstBelow_n18 rfl rfl rfl rfl (fun hb13 => ?_) (fun hb13 => ?_)
  ·replace hb13 := of_decide_eq_true hb13
   refine ws_skip rfl (nmk [1, 3, 4, 5] rfl (nm_thn (ws_seqN firstBelow_n19 firstBelow_n20 rfl rfl rfl (ws_blockN firstBelow_n21 1 rfl rfl rfl (ws_seqN firstBelow_n22 firstBelow_n23 rfl rfl rfl (ws_region rfl (wla 0 1 rfl rfl rfl rfl rfl rfl rfl (wl_end rfl ?_))))))))
   refine nm_thn (ws_blockN firstBelow_n24 2 rfl rfl rfl ?_)
   refine ws_loopE (fun mx_ ax_ wx_ => ∃ (k : Nat) (sn2 : List Nat) (es2 : List Int) (vrs2 : Value), mx_ = (ga (strandsL d) i).length - k ∧ Env 51 [(1, .pointer (some ⟨gb1, 0, none⟩)), (3, .slice A1 vs1.length c1), (4, vrs2), (5, .int .i64 (i : Int)), (6, .int .i64 (k : Int))] ax_ ∧ SH wx_ M1 X [Rs.row cdInt vrs2 es2, Rs.box gb1 24 [.slice dcrsA d.crs.length dcrsc, .int .i64 d.loops]] ∧ k ≤ (ga (strandsL d) i).length ∧ low d = fbF sn2 (restV d i k) ∧ LsOk es2 sn2 ∧ es2.length ≤ 100 * i + k) rfl ?_ ?_
   ·intro ax_ hax_
    refine ⟨_, ⟨0, sn, es, _, rfl, hax_.sub ⟨rfl, rfl, rfl, rfl, rfl, trivial⟩, S4.pick [0, 1] [_, _] (by decide) ⟨rfl, rfl, trivial⟩, ?hq2f0, ?hq2f1, ?hq2f2, ?hq2f3⟩⟩
    case hq2f0 => omega
    case hq2f1 => (rw [hf, rest0_go (by omega)])
    case hq2f2 => exact hse
    case hq2f3 => omega
   ·rintro m2 a2 w4 ⟨k, sn2, es2, vrs2, rfl, he2, S5, hk, hf2, hse2, hel2⟩
    clear S4
    refine ws_in he2 (c := firstBelow_n25) rfl ?_
    clear he2 a2
    refine ws_seqN firstBelow_n26 firstBelow_n27 rfl rfl rfl (ws_seqN firstBelow_n28 firstBelow_n29 rfl rfl rfl (ws_region rfl (wlm 0 1 rfl rfl rfl rfl rfl rfl rfl (wlm 1 2 rfl rfl rfl rfl rfl rfl rfl (wlm 2 3 rfl rfl rfl rfl rfl rfl rfl (wlo 3 4 rfl rfl rfl (wo_run rfl rfl (run_indexM (C := (cdV 53)) i rfl rfl rfl sl103 (by first | rfl | omega) hr1 (by first | omega | (simp only [lens]; omega))) ?_)))))))
    obtain ⟨hn1, hr2⟩ := hd1.2 i (by first | omega | (simp only [lens]; omega))
    have rmhr2 : (ga (strandsL d) i).length * 8 ≤ 140737488355328 := hr2.room
    refine wlo 4 5 rfl rfl rfl (wo_run rfl rfl (run_load1 rfl rfl Tryz.underlying53 rfl (hr1.cell S5.m (i := i) (by first | omega | (simp only [lens]; omega)) 0 rfl (congrArg (fun n => some (Value.slice _ n _)) hn1))) ?_)
    refine wlo 5 6 rfl rfl rfl (wo_run rfl rfl (run_len rfl rfl rfl rfl rfl rfl Tryz.underlying53) (wlo 6 7 rfl rfl rfl (wo_run rfl rfl (run_lss rfl rfl rfl) (wl_end rfl (nmk [1, 3, 4, 5, 6, 22] rfl (nm_thn ?_))))))
    refine ws_condN firstBelow_n30 firstBelow_n31 rfl rfl rfl rfl (fun hb22 => ?_) (fun hb22 => ?_)
    ·replace hb22 := of_decide_eq_true hb22
     refine ws_skip rfl (nmk [1, 3, 4, 5, 6] rfl (nm_thn (ws_seqN firstBelow_n32 firstBelow_n33 rfl rfl rfl (ws_blockN firstBelow_n34 3 rfl rfl rfl (ws_seqN firstBelow_n35 firstBelow_n36 rfl rfl rfl (ws_draw rfl (by kernel_rfl) S5 11 rfl ?_))))))
     clear S5
     refine wat 0 10 rfl (by kernel_rfl) rfl rfl rfl (fun M2 N1 w5 hle4 S6 => .inl (run_loadN (us := [_, _]) rfl rfl Tryz.underlying24 rfl sz24 (S6.suf.boxcs (i := 1) rfl ⟨rfl, rfl, trivial⟩))) ?_
     refine wap 1 9 rfl (by kernel_rfl) rfl rfl rfl (fun w6 => run_move rfl rfl) ?_
     refine wap 2 8 rfl (by kernel_rfl) rfl rfl rfl (fun w7 => run_move rfl rfl) ?_
     refine wat 3 7 rfl (by kernel_rfl) rfl rfl rfl (fun M5 N4 w8 hle7 S9 => .inl (run_indexM (C := (cdV 53)) i rfl rfl rfl sl103 (by first | rfl | omega) (hr1.mono hle7) (by first | omega | (simp only [lens]; omega)))) ?_
     obtain ⟨hn2, hr3⟩ := hd1.2 i (by first | omega | (simp only [lens]; omega))
     have rmhr3 : (ga (strandsL d) i).length * 8 ≤ 140737488355328 := hr3.room
     refine wat 4 6 rfl (by kernel_rfl) rfl rfl rfl (fun M6 N5 w9 hle8 S10 => .inl (run_load1 rfl rfl Tryz.underlying53 rfl ((hr1.mono hle8).cell S10.m (i := i) (by first | omega | (simp only [lens]; omega)) 0 rfl (congrArg (fun n => some (Value.slice _ n _)) hn2)))) ?_
     refine wap 5 5 rfl (by kernel_rfl) rfl rfl rfl (fun w10 => run_move rfl rfl) ?_
     refine wat 6 4 rfl (by kernel_rfl) rfl rfl rfl (fun M8 N7 w11 hle10 S12 => .inl (run_indexM (C := cdInt) k rfl rfl rfl sl53 (by first | rfl | omega) (hr3.mono hle10) (by first | omega | (simp only [lens]; omega)))) ?_
     refine wat 7 3 rfl (by kernel_rfl) rfl rfl rfl (fun M9 N8 w12 hle11 S13 => .inl (run_load1 rfl rfl Tryz.underlying3 rfl ((hr3.mono hle11).cell S13.m (i := k) (by first | omega | (simp only [lens]; omega)) 0 rfl rfl))) ?_
     refine wat 8 2 rfl (by kernel_rfl) rfl rfl rfl (fun M10 N9 w13 hle12 S14 => yield_cq rfl rfl rfl rfl rfl cf60 S14 (EndOf_q d (ga (ga (strandsL d) i) k) false ((hdcrs.mono (Hp.un_mono hle12 S14.mx)).mono S14.un_XH) S14.lend)) ?_
     refine wa_only (i := 9) 1 rfl (by kernel_rfl) rfl rfl (fun w15 S16 => ?_)
     refine (wo_alloc (l := [_, _]) rfl rfl rfl zr120 rfl S16 ?_)
     intro gb2 w16 S17; clear S16
     refine LeftW.grow [_] (Hp.le_refl _) S17 ?_; clear S17
     change WA _ _ _ _ _ _ _ _ _ _ _ _ [_, _, _]
     refine wa_only (i := 10) 0 rfl (by kernel_rfl) rfl rfl (fun w18 S19 => ?_)
     refine (wo_storeB (i := 0) (us := [_, _]) (l' := [_, _]) (H' := [_, _, _]) rfl rfl S19 rfl rfl rfl rfl sz120 rfl rfl rfl rfl ?_)
     intro w19 S20; clear S19
     refine LeftW.grow [_] (Hp.le_refl _) S20 ?_; clear S20
     change WA _ _ _ _ _ _ _ _ _ _ _ _ [_, _, _]
     refine wa_end (by kernel_rfl) (fun w20 S21 => ?_)
     refine nmk [1, 3, 4, 5, 6, 7] rfl (nm_thn (ws_seqN firstBelow_n37 firstBelow_n38 rfl rfl rfl (ws_seqN firstBelow_n39 firstBelow_n40 rfl rfl rfl ?_)))
     have hsn := hse2 (endOf d (ga (ga (strandsL d) i) k) false).1
     refine ws_region rfl (wlm 0 1 rfl rfl rfl rfl rfl rfl rfl (wlo 1 2 rfl rfl rfl (wo_run rfl rfl (run_fieldAddr rfl rfl Tryz.underlying120 rfl (ce3) (nf3)) (wlo 2 3 rfl rfl rfl (wo_run rfl rfl (run_load1 rfl rfl Tryz.underlying3 rfl (S21.boxc (i := 0) rfl rfl)) ?_)))))
     obtain ⟨A2, c2, e1, hr4⟩ := S21.lendRd (i := 1) rfl (by show _ * 8 ≤ _; first | omega | (simp only [lens]; omega))
     have hcall1 := within_q es2 ((endOf d (ga (ga (strandsL d) i) k) false).1 : Int) hr4 S21.lend
     refine wlo 3 4 rfl rfl rfl (wo_cq rfl rfl rfl rfl rfl rfl rfl cf77 S21 (Cq.cast (by simp only [e1]) (hcall1)) ?_)
     rintro _ w21 S22 rfl; clear S21
     refine wlo 4 5 rfl rfl rfl (wo_run rfl rfl (run_not rfl rfl) (wlm 5 6 rfl rfl rfl rfl rfl rfl rfl ?_))
     refine wl_split (t := 39) rfl (fun hg39 => ?_) (fun hg39 => ?_)
     ·simp only [Bool.and_eq_true, Bool.or_eq_true, Bool.and_eq_false_iff, Bool.or_eq_false_iff, decide_eq_true_eq, decide_eq_false_iff_not, Bool.not_eq_true', Bool.not_eq_false'] at hg39
      refine wlg 6 7 rfl rfl rfl rfl rfl rfl rfl rfl (wo_run rfl rfl (run_fieldAddr rfl rfl Tryz.underlying120 rfl (ce3) (nf3)) (wlg 7 8 rfl rfl rfl rfl rfl rfl rfl rfl (wo_run rfl rfl (run_load1 rfl rfl Tryz.underlying3 rfl (S22.boxc (i := 0) rfl rfl)) (wlg 8 9 rfl rfl rfl rfl rfl rfl rfl rfl (wo_run rfl rfl (run_eql rfl rfl rfl) (wlo 9 10 rfl rfl rfl (wo_run rfl rfl (run_pickT rfl rfl rfl) (wl_end rfl (nmk [1, 3, 4, 5, 6, 7, 43] rfl (nm_thn ?_))))))))))
      refine ws_condN firstBelow_n41 firstBelow_n42 rfl rfl rfl rfl (fun hb43 => ?_) (fun hb43 => ?_)
      ·replace hb43 := of_decide_eq_true hb43
       refine ws_seqN firstBelow_n43 firstBelow_n44 rfl rfl rfl (ws_region rfl (wlo 0 1 rfl rfl rfl (wo_run rfl rfl (run_fieldAddr rfl rfl Tryz.underlying120 rfl (ce3) (nf3)) (wlo 1 2 rfl rfl rfl (wo_run rfl rfl (run_load1 rfl rfl Tryz.underlying3 rfl (S22.boxc (i := 0) rfl rfl)) (wla 2 3 rfl rfl rfl rfl rfl rfl rfl (wl_end rfl (nmk [2] rfl (nm_thn (ws_ret hC [_] rfl rfl ⟨rfl, trivial⟩ ?_))))))))))
       refine ⟨_, rfl, _, hle1, (S22.pick [] [] (by decide) trivial), ?_⟩
       have e9 := fb_hit hf2 (by omega) (by rw [hsn] at hg39; simpa only [Bool.not_eq_true', decide_eq_true_eq, decide_eq_false_iff_not, Bool.not_eq_false', Bool.not_eq_true, Bool.not_eq_false] using hg39) (by omega)
       rw [e9]
       rfl
      ·replace hb43 := of_decide_eq_false hb43
       refine ws_skip rfl (nmk [1, 3, 4, 5, 6, 7] rfl (nm_thn (ws_region rfl (wlm 0 1 rfl rfl rfl rfl rfl rfl rfl (wlo 1 2 rfl rfl rfl (wo_run rfl rfl (run_fieldAddr rfl rfl Tryz.underlying120 rfl (ce3) (nf3)) (wlo 2 3 rfl rfl rfl (wo_run rfl rfl (run_load1 rfl rfl Tryz.underlying3 rfl (S22.boxc (i := 0) rfl rfl)) (wlo 3 4 rfl rfl rfl (wo_buildSlice1 (C := cdInt) (l := [_]) rfl rfl rfl rfl sl53 rfl rfl rfl rfl S22 ?_))))))))))
       intro gb3 w22 S23; clear S22
       refine wlo 4 5 rfl rfl rfl (wo_append1 (C := cdInt) (i := 2) (q := 0) ((endOf d (ga (ga (strandsL d) i) k) false).1 : Int) rfl rfl rfl rfl rfl rfl rfl rfl sl53 S23 rfl rfl rfl (by show (_ + 1) * 8 ≤ _; first | omega | (simp only [lens]; omega)) ?_)
       intro vrs1 w23 S24; clear S23
       have S25 := S24.pick [1, 2, 3] [_, _, _] (by decide) ⟨rfl, rfl, rfl, trivial⟩; clear S24
       refine wla 5 6 rfl rfl rfl rfl rfl rfl rfl (wl_end rfl (nm_blk (nmk [1, 3, 4, 5, 6] rfl (nm_thn (ws_region rfl (wlm 0 1 rfl rfl rfl rfl rfl rfl rfl (wlo 1 2 rfl rfl rfl (wo_run rfl rfl (run_add rfl rfl rfl (by first | omega | (simp only [lens]; omega))) ?_))))))))
       refine wla 2 3 rfl rfl rfl rfl rfl rfl rfl (wl_end rfl (nm_lp ?_))
       intro ax_ hax_
       refine ⟨_, ?hq3m, ⟨k + 1, (endOf d (ga (ga (strandsL d) i) k) false).1 :: sn2, es2 ++ [((endOf d (ga (ga (strandsL d) i) k) false).1 : Int)], _, rfl, hax_.sub ⟨rfl, rfl, rfl, rfl, rfl, trivial⟩, S25.pick [1, 2] [_, _] (by decide) ⟨rfl, rfl, trivial⟩, ?hq3f0, ?hq3f1, ?hq3f2, ?hq3f3⟩⟩
       case hq3f0 => omega
       case hq3f1 => (refine fb_go hf2 (by omega) ?_; rintro ⟨h1, h2⟩; first | omega | (rw [hsn] at hg39; simp only [Bool.not_eq_true', decide_eq_true_eq, decide_eq_false_iff_not, Decidable.not_not, Bool.not_eq_false', Bool.not_eq_true, Bool.not_eq_false] at hg39; exact h1 hg39))
       case hq3f2 => exact hse2.put _
       case hq3f3 => (rw [List.length_append, List.length_singleton]; omega)
       case hq3m => omega
     ·simp only [Bool.and_eq_true, Bool.or_eq_true, Bool.and_eq_false_iff, Bool.or_eq_false_iff, decide_eq_true_eq, decide_eq_false_iff_not, Bool.not_eq_true', Bool.not_eq_false'] at hg39
      refine wln 6 7 rfl rfl rfl rfl rfl rfl rfl rfl rfl (wln 7 8 rfl rfl rfl rfl rfl rfl rfl rfl rfl (wln 8 9 rfl rfl rfl rfl rfl rfl rfl rfl rfl (wlo 9 10 rfl rfl rfl (wo_run rfl rfl (run_pickF rfl rfl rfl) (wl_end rfl (nmk [1, 3, 4, 5, 6, 7, 43] rfl (nm_thn (ws_condFN firstBelow_n42 rfl rfl rfl (ws_skip rfl ?_)))))))))
      refine nmk [1, 3, 4, 5, 6, 7] rfl (nm_thn (ws_region rfl (wlm 0 1 rfl rfl rfl rfl rfl rfl rfl (wlo 1 2 rfl rfl rfl (wo_run rfl rfl (run_fieldAddr rfl rfl Tryz.underlying120 rfl (ce3) (nf3)) (wlo 2 3 rfl rfl rfl (wo_run rfl rfl (run_load1 rfl rfl Tryz.underlying3 rfl (S22.boxc (i := 0) rfl rfl)) (wlo 3 4 rfl rfl rfl (wo_buildSlice1 (C := cdInt) (l := [_]) rfl rfl rfl rfl sl53 rfl rfl rfl rfl S22 ?_)))))))))
      intro gb4 w24 S26; clear S22
      refine wlo 4 5 rfl rfl rfl (wo_append1 (C := cdInt) (i := 2) (q := 0) ((endOf d (ga (ga (strandsL d) i) k) false).1 : Int) rfl rfl rfl rfl rfl rfl rfl rfl sl53 S26 rfl rfl rfl (by show (_ + 1) * 8 ≤ _; first | omega | (simp only [lens]; omega)) ?_)
      intro vrs2 w25 S27; clear S26
      have S28 := S27.pick [1, 2, 3] [_, _, _] (by decide) ⟨rfl, rfl, rfl, trivial⟩; clear S27
      refine wla 5 6 rfl rfl rfl rfl rfl rfl rfl (wl_end rfl (nm_blk (nmk [1, 3, 4, 5, 6] rfl (nm_thn (ws_region rfl (wlm 0 1 rfl rfl rfl rfl rfl rfl rfl (wlo 1 2 rfl rfl rfl (wo_run rfl rfl (run_add rfl rfl rfl (by first | omega | (simp only [lens]; omega))) ?_))))))))
      refine wla 2 3 rfl rfl rfl rfl rfl rfl rfl (wl_end rfl (nm_lp ?_))
      intro ax_ hax_
      refine ⟨_, ?hq4m, ⟨k + 1, (endOf d (ga (ga (strandsL d) i) k) false).1 :: sn2, es2 ++ [((endOf d (ga (ga (strandsL d) i) k) false).1 : Int)], _, rfl, hax_.sub ⟨rfl, rfl, rfl, rfl, rfl, trivial⟩, S28.pick [1, 2] [_, _] (by decide) ⟨rfl, rfl, trivial⟩, ?hq4f0, ?hq4f1, ?hq4f2, ?hq4f3⟩⟩
      case hq4f0 => omega
      case hq4f1 => (refine fb_go hf2 (by omega) ?_; rintro ⟨h1, h2⟩; first | omega | (rw [hsn] at hg39; simp only [Bool.not_eq_true', decide_eq_true_eq, decide_eq_false_iff_not, Decidable.not_not, Bool.not_eq_false', Bool.not_eq_true, Bool.not_eq_false] at hg39; exact h1 hg39))
      case hq4f2 => exact hse2.put _
      case hq4f3 => (rw [List.length_append, List.length_singleton]; omega)
      case hq4m => omega
    ·replace hb22 := of_decide_eq_false hb22
     refine ws_exit rfl rfl (nm_blk (nmk [1, 3, 4, 5] rfl (nm_thn (ws_region rfl (wlm 0 1 rfl rfl rfl rfl rfl rfl rfl (wlo 1 2 rfl rfl rfl (wo_run rfl rfl (run_add rfl rfl rfl (by first | omega | (simp only [lens]; omega))) ?_)))))))
     refine wla 2 3 rfl rfl rfl rfl rfl rfl rfl (wl_end rfl (nm_lp ?_))
     intro ax_ hax_
     refine ⟨_, ?hq5m, ⟨i + 1, sn2, es2, _, rfl, hax_.sub ⟨rfl, rfl, rfl, rfl, trivial⟩, S5.pick [0, 1] [_, _] (by decide) ⟨rfl, rfl, trivial⟩, ?hq5f0, ?hq5f1, ?hq5f2, ?hq5f3⟩⟩
     case hq5f0 => omega
     case hq5f1 => (rw [hf2]; exact congrArg _ (restV_end (by omega)))
     case hq5f2 => exact hse2
     case hq5f3 => omega
     case hq5m => omega
  ·replace hb13 := of_decide_eq_false hb13
   refine ws_exit rfl rfl (nm_sub [] trivial (nm_thn (ws_seqN firstBelow_n45 firstBelow_n46 rfl rfl rfl (ws_region rfl (wla 0 1 rfl rfl rfl rfl rfl rfl rfl (wl_end rfl (nm_thn (ws_ret hC [_] rfl rfl ⟨rfl, trivial⟩ ?_))))))))
   refine ⟨_, rfl, _, hle1, (S4.pick [] [] (by decide) trivial), ?_⟩
   have e9 : low d = -1 := by rw [hf, rest0_end (by omega)]; rfl
   rw [e9]
   rfl
end Go.Proofs.YthppkofceancjaaGreat
