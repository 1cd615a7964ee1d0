/- Part 8 of the proof of the law SignShades: the walks through its functions and the plain laws that they need. -/
import Derived.Test.YthppkofceancjaaShZ7
set_option linter.unusedSimpArgs false
set_option linter.unusedVariables false
namespace Go.Proofs.Ythppkofceancjaa
open Go.ChangeShapes Go.WideShapes Go.ChangeAt Go.RowKit
/-- The map from darts to faces. -/
def putD (i : Nat) (f : List Da) (es : List (Da × Int)) : Nat → List (Da × Int)
 | 0 => es
 | k + 1 => mp (ga f k) (i : Int) (putD i f es k)
def fmapN (fs : List (List Da)) : Nat → List (Da × Int)
 | 0 => []
 | i + 1 => putD i (ga fs i) (fmapN fs i) (ga fs i).length
theorem putD_mg (i : Nat) (p : List Da) (es : List (Da × Int)) (k : Nat) (hk : k ≤ p.length) (y : Da) : (y ∈ p.take k → mg y (putD i p es k) = some (i : Int)) ∧ (y ∉ p.take k → mg y (putD i p es k) = mg y es) := by
 induction k with
 | zero => exact ⟨fun h => by simp at h, fun _ => rfl⟩
 | succ k ih =>
  have ih := ih (by omega)
  rw [take_ga _ _ (by omega), putD, mg_mp]
  constructor
  ·intro h
   by_cases e : y = ga p k
   ·rw [if_pos e]
   ·rw [if_neg e]
    rcases List.mem_append.1 h with h | h
    ·exact ih.1 h
    ·exact absurd (List.mem_singleton.1 h) e
  ·intro h
   rw [List.mem_append, List.mem_singleton] at h
   rw [if_neg (fun e => h (.inr e))]
   exact ih.2 (fun e => h (.inl e))
theorem fmapN_mg {pss : List (List Da)} (hd : ∀ i j, i < pss.length → j < pss.length → ∀ y, y ∈ ga pss i → y ∈ ga pss j → i = j) (m : Nat) (hm : m ≤ pss.length) {i : Nat} (hi : i < m) {y : Da} (hy : y ∈ ga pss i) : mg y (fmapN pss m) = some (i : Int) := by
 induction m with
 | zero => omega
 | succ m ih =>
  have h := putD_mg m (ga pss m) (fmapN pss m) (ga pss m).length (Nat.le_refl _) y
  rw [List.take_length] at h
  rw [fmapN]
  by_cases e : y ∈ ga pss m
  ·rw [h.1 e, hd i m (by omega) (by omega) y hy e]
  ·rw [h.2 e]
   exact ih (by omega) (by
    rcases Nat.lt_or_ge i m with h1 | h1
    ·exact h1
    ·obtain rfl : i = m := by omega
     exact absurd hy e)
def fmap (d : Dg) : List (Da × Int) := fmapN (facesL d) (facesL d).length
theorem fmap_mg {d : Dg} (h : arcsB d = true) {x : Da} (hx : okD d x) : (mg x (fmap d)).getD 0 = (fcI d (dcN x) : Int) := by
 obtain ⟨k, h1, h2, h3⟩ := fc_all h hx
 have hm : x ∈ ga (facesL d) (fcI d (dcN x)) := by
  have := ga_mem h2
  rwa [h3] at this
 have := fmapN_mg (pss := facesL d) (fun i j hi hj y hyi hyj => by
  obtain ⟨a, ha, ea⟩ := List.mem_iff_getElem.1 hyi
  obtain ⟨b, hb, eb⟩ := List.mem_iff_getElem.1 hyj
  have e1 := (fc_hit h hi ha).2.1
  have e2 := (fc_hit h hj hb).2.1
  rw [ga_eq ha, ea] at e1
  rw [ga_eq hb, eb] at e2
  exact e1.symm.trans e2) _ (Nat.le_refl _) h1 hm
 unfold fmap
 rw [this]
 rfl
theorem fmap_fw {d : Dg} (h : arcsB d = true) {k : Nat} (hk : k < 4 * d.crs.length) : (mg (dartN k) (fmap d)).getD 0 = ((fcI d (k + 2) : Nat) : Int) := by
 have := fmap_mg h (dA_ok (d := d) (c := k + 2) (by omega))
 rw [dcN_dA] at this
 exact this
theorem fmap_rv {d : Dg} (h : arcsB d = true) {k : Nat} (hk : k < 4 * d.crs.length) : (mg (⟨(dartN k).a, !(dartN k).b⟩ : Da) (fmap d)).getD 0 = ((fcI d (revC (k + 2)) : Nat) : Int) := by
 have e : (⟨(dartN k).a, !(dartN k).b⟩ : Da) = dA (revC (k + 2)) := (dA_rev (c := k + 2)).symm
 have := fmap_mg h (dA_ok (d := d) (c := revC (k + 2)) (rgC_rev (d := d) ⟨by omega, by omega⟩))
 rw [dcN_dA] at this
 rw [e]
 exact this
def errG (d : Dg) : Int := if errO d = 0 then (if oneB d = true then 0 else 6) else errO d
/-- A diagram with its shades, as it lies for good. -/
def ChM (N : Hp) (d : Dg) (g gsh gm : Nat) (cA iA oA sA : Option Addr) (cc ic oc sc : Nat) : Prop :=
 BxM N g 46 [.pointer (some ⟨gsh, 0, none⟩), .map (some gm), .slice sA (shL d).length sc] ∧ ShM N d gsh cA iA oA cc ic oc ∧ MpOk (fun x => Value.agg (cdDa.f x).toArray) (Value.int .i64) gm (fmap d) N ∧ RdA cdInt N sA sc (shL d)
def ChartT (d : Dg) (v : Value) (N : Hp) : Prop :=
 (errG d ≠ 0 ∧ v = .tuple [.pointer none, .int .i64 (errG d)].toArray) ∨
 (errG d = 0 ∧ ∃ g gsh gm cA iA oA sA cc ic oc sc, v = .tuple [.pointer (some ⟨g, 0, none⟩), .int .i64 0].toArray ∧ ChM N d g gsh gm cA iA oA sA cc ic oc sc)
/-- What holds between two rounds of open's loop over darts. -/
def OpI (d : Dg) (gsh gm q41 q6 q12 : Nat) (sh0 : List Int) (k : Nat) (M : Hp) (H : List Rs) : Prop := ∃ sh b vsh,
 H = [Rs.mp (fun x => Value.agg (cdDa.f x).toArray) (Value.int .i64) gm (fmap d), Rs.row cdInt vsh sh, Rs.box q41 46 [.pointer (some ⟨gsh, 0, none⟩), .map (some gm), vsh], Rs.box q6 40 [.pointer (some ⟨q41, 0, none⟩)], Rs.box q12 4 [.bool b]] ∧
 PartC d sh ∧ (b = false → sh = sh0 ∧ ∀ q, q < k → ¬(0 ≤ ga sh (fcI d (q + 2)) ∧ ga sh (fcI d (revC (q + 2))) < 0)) ∧ (b = true → unc d sh < unc d sh0)
def OpI1 (d : Dg) (gsh gm q41 q6 q12 : Nat) (sh0 : List Int) (k : Nat) (a : Act) (M : Hp) (H : List Rs) : Prop := ∃ q13 H', Env 134 [(6, .pointer (some ⟨q6, 0, none⟩)), (12, .pointer (some ⟨q12, 0, none⟩)), (13, .pointer (some ⟨q13, 0, none⟩))] a ∧ H = Rs.box q13 65 [.int .i64 (dartN k).a, .bool (dartN k).b] :: H' ∧ OpI d gsh gm q41 q6 q12 sh0 k M H'
def rgfA : Code → Code
 | .rangeFunc _ _ a _ => a
 | c => c
def rgfB : Code → Code
 | .rangeFunc _ _ _ b => b
 | c => c
noncomputable def SOp_rf : Code := cL (cR (cR (cL (cL (cR (cL (cL (cR (cL (cR (cR (cR (cR (cR (cR (cR (Try.f12.body.getD .skip)))))))))))))))))
noncomputable def SOp_tl : Code := cR (cR (cR (cR (cR (cR (cR (Try.f12.body.getD .skip)))))))
namespace InF
set_option maxRecDepth 10000 in
theorem SOp_assign {w : World} {M : Hp} {X : Fr} {d : Dg} {gsh gqm gq41 gq6 gq12 k : Nat} {sh0 : List Int} {C : Ctx} {R0 : Rs} {H : List Rs} {L : List (Nat × Value)} (hL : Sub L [(6, .pointer (some ⟨gq6, 0, none⟩)), (12, .pointer (some ⟨gq12, 0, none⟩)), (82, encD k)]) (S : SH w M X (R0 :: H)) (hI : OpI d gsh gqm gq41 gq6 gq12 sh0 k M H) :
  WS Try.prog 134 C (rgfA SOp_rf) [.lp (fun a w2 => ∃ M2 H2, M.le M2 ∧ SH w2 M2 X (R0 :: H2) ∧ OpI1 d gsh gqm gq41 gq6 gq12 sh0 k a M2 H2)] L w := by
 obtain ⟨sh, b, vrsh, rfl, hp, hb0, hb1⟩ := hI
 change SH w M X [R0, Rs.mp (fun x => Value.agg (cdDa.f x).toArray) (Value.int .i64) gqm (fmap d), Rs.row cdInt vrsh sh, _, _, _] at S
 refine ws_sub _ hL ?_
 refine ws_region rfl ?_
 refine wl_op (k := 0) (k' := 1) rfl rfl rfl (wo_alloc (l := [_, _]) rfl rfl rfl zr65 rfl S ?_)
 intro gb1 w1 S1; clear S
 refine wl_op (k := 1) (k' := 2) rfl rfl rfl (wo_storeB (i := 0) (us := [_, _]) (l' := [_, _]) (H' := [_, _, _, _, _, _, _]) rfl rfl S1 rfl rfl rfl rfl sz65 rfl rfl rfl rfl ?_)
 intro w2 S2; clear S1
 refine wl_end rfl ?_
 refine nm_lp ?_
 intro ax_ hax_
 exact ⟨M, _, Hp.le_refl _, S2.pick [1, 0, 2, 3, 4, 5, 6] [_, _, _, _, _, _, _] (by decide) ⟨rfl, rfl, rfl, rfl, rfl, rfl, rfl, trivial⟩, _, _, hax_.sub ⟨rfl, rfl, rfl, trivial⟩, rfl, sh, b, vrsh, rfl, hp, hb0, hb1⟩
noncomputable def SOpB_n1 : Code := rgfB SOp_rf
noncomputable def SOpB_n2 : Code := cL SOpB_n1
noncomputable def SOpB_n3 : Code := cL SOpB_n2
noncomputable def SOpB_n4 : Code := cR SOpB_n2
noncomputable def SOpB_n5 : Code := cL SOpB_n4
noncomputable def SOpB_n6 : Code := cR SOpB_n4
noncomputable def SOpB_n7 : Code := cL SOpB_n6
noncomputable def SOpB_n8 : Code := cR SOpB_n6
set_option maxHeartbeats 1000000 in
set_option maxRecDepth 10000 in
theorem SOp_body {w : World} {M : Hp} {X : Fr} {d : Dg} {gsh gqm gq41 gq6 gq12 k : Nat} {sh0 : List Int} (hS : OkS d) (hk : k < 4 * d.crs.length) {C : Ctx} {R0 : Rs} {H : List Rs} {a : Act} (S : SH w M X (R0 :: H)) (hI1 : OpI1 d gsh gqm gq41 gq6 gq12 sh0 k a M H) :
  (rgfB SOp_rf).wpIn C.F 0 Try.prog (post Try.prog C [.lp (fun _ w2 => ∃ M2 H2, M.le M2 ∧ SH w2 M2 X (R0 :: H2) ∧ OpI d gsh gqm gq41 gq6 gq12 sh0 (k + 1) M2 H2)]) a w := by
 obtain ⟨gq13, H1, ha, rfl, hI⟩ := hI1
 obtain ⟨sh, b, vrsh, rfl, hp, hb0, hb1⟩ := hI
 change SH w M X [R0, Rs.box gq13 _ _, Rs.mp (fun x => Value.agg (cdDa.f x).toArray) (Value.int .i64) gqm (fmap d), Rs.row cdInt vrsh sh, _, _, _] at S
 have hab := hS.ab
 have hadj := adj_rev hS (c := k + 2) ⟨by omega, by omega⟩
 obtain ⟨hl1, hl2, _⟩ := hadj.ok hS
 have hsl := hp.1
 have hbd1 := part_bd hp hl1
 have hbd2 := part_bd hp hl2
 refine ws_in ha (c := rgfB SOp_rf) rfl ?_
 refine ws_blockN SOpB_n2 8 rfl rfl rfl ?_
 refine ws_seqN SOpB_n3 SOpB_n4 rfl rfl rfl ?_
 refine ws_draw rfl (by kernel_rfl) S 19 rfl ?_
 clear S
 refine wa_take (i := 0) (d := 83) 18 rfl (by kernel_rfl) (by kernel_rfl) (by kernel_rfl) rfl rfl rfl (fun M1 N1 w1 hle1 S1 => .inl (run_load1 rfl rfl Try.underlying40 rfl (S1.suf.boxc (i := 5) rfl rfl))) ?_
 refine wa_takeP (i := 1) (d := 84) 17 rfl (by kernel_rfl) (by kernel_rfl) (by kernel_rfl) rfl rfl rfl (fun w2 => run_nilCheck rfl rfl) ?_
 refine wa_takeP (i := 2) (d := 85) 16 rfl (by kernel_rfl) (by kernel_rfl) (by kernel_rfl) rfl rfl rfl (fun w3 => run_fieldAddr rfl rfl Try.underlying46 rfl (ce44) (nf44)) ?_
 refine wa_take (i := 3) (d := 86) 15 rfl (by kernel_rfl) (by kernel_rfl) (by kernel_rfl) rfl rfl rfl (fun M4 N4 w4 hle4 S4 => .inl (run_load1 rfl rfl Try.underlying44 rfl (S4.suf.boxc (i := 4) rfl rfl))) ?_
 refine wa_take (i := 4) (d := 87) 14 rfl (by kernel_rfl) (by kernel_rfl) (by kernel_rfl) rfl rfl rfl (fun M5 N5 w5 hle5 S5 => .inl (run_loadN (us := [_, _]) rfl rfl Try.underlying65 rfl sz65 (S5.suf.boxcs (i := 1) rfl ⟨rfl, rfl, trivial⟩))) ?_
 refine wa_take (i := 5) (d := 88) 13 rfl (by kernel_rfl) (by kernel_rfl) (by kernel_rfl) rfl rfl rfl (fun M6 N6 w6 hle6 S6 => .inl (run_lookup (kc := (fun x => Value.agg (cdDa.f x).toArray)) (vc := (Value.int .i64)) (es := (fmap d)) (k := (dartN k)) (zv := 0) (i := 2) rfl rfl rfl Try.underlying44 mk65 zr3 S6.suf rfl)) ?_
 refine wa_eq 88 (.int .i64 ((fcI d (k + 2) : Nat) : Int)) rfl (int_eq (fmap_fw hab hk)) ?_
 refine wa_take (i := 6) (d := 89) 12 rfl (by kernel_rfl) (by kernel_rfl) (by kernel_rfl) rfl rfl rfl (fun M7 N7 w7 hle7 S7 => .inl (run_load1 rfl rfl Try.underlying40 rfl (S7.suf.boxc (i := 5) rfl rfl))) ?_
 refine wa_takeP (i := 7) (d := 90) 11 rfl (by kernel_rfl) (by kernel_rfl) (by kernel_rfl) rfl rfl rfl (fun w8 => run_nilCheck rfl rfl) ?_
 refine wa_takeP (i := 8) (d := 91) 10 rfl (by kernel_rfl) (by kernel_rfl) (by kernel_rfl) rfl rfl rfl (fun w9 => run_fieldAddr rfl rfl Try.underlying46 rfl (ce44) (nf44)) ?_
 refine wa_take (i := 9) (d := 92) 9 rfl (by kernel_rfl) (by kernel_rfl) (by kernel_rfl) rfl rfl rfl (fun M10 N10 w10 hle10 S10 => .inl (run_load1 rfl rfl Try.underlying44 rfl (S10.suf.boxc (i := 4) rfl rfl))) ?_
 refine wa_takeP (i := 10) (d := 93) 8 rfl (by kernel_rfl) (by kernel_rfl) (by kernel_rfl) rfl rfl rfl (fun w11 => run_fieldAddr rfl rfl Try.underlying65 rfl (ce3) (nf3)) ?_
 refine wa_take (i := 11) (d := 94) 7 rfl (by kernel_rfl) (by kernel_rfl) (by kernel_rfl) rfl rfl rfl (fun M12 N12 w12 hle12 S12 => .inl (run_load1 rfl rfl Try.underlying3 rfl (S12.suf.boxc (i := 1) rfl rfl))) ?_
 refine wa_takeP (i := 12) (d := 95) 6 rfl (by kernel_rfl) (by kernel_rfl) (by kernel_rfl) rfl rfl rfl (fun w13 => run_fieldAddr rfl rfl Try.underlying65 rfl (ce4) (nf4)) ?_
 refine wa_take (i := 13) (d := 96) 5 rfl (by kernel_rfl) (by kernel_rfl) (by kernel_rfl) rfl rfl rfl (fun M14 N14 w14 hle14 S14 => .inl (run_load1 rfl rfl Try.underlying4 rfl (S14.suf.boxc (i := 1) rfl rfl))) ?_
 refine wa_takeP (i := 14) (d := 97) 4 rfl (by kernel_rfl) (by kernel_rfl) (by kernel_rfl) rfl rfl rfl (fun w15 => run_not rfl rfl) ?_
 refine wa_take (i := 15) (d := 98) 3 rfl (by kernel_rfl) (by kernel_rfl) (by kernel_rfl) rfl rfl rfl (fun M16 N16 w16 hle16 S16 => .inl (run_build (l := [_, _]) rfl rfl st65 rfl rfl)) ?_
 refine wa_take (i := 16) (d := 99) 2 rfl (by kernel_rfl) (by kernel_rfl) (by kernel_rfl) rfl rfl rfl (fun M17 N17 w17 hle17 S17 => .inl (run_lookup (kc := (fun x => Value.agg (cdDa.f x).toArray)) (vc := (Value.int .i64)) (es := (fmap d)) (k := (⟨(dartN k).a, !((dartN k).b)⟩ : Da)) (zv := 0) (i := 2) rfl rfl rfl Try.underlying44 mk65 zr3 S17.suf rfl)) ?_
 refine wa_eq 99 (.int .i64 ((fcI d (revC (k + 2)) : Nat) : Int)) rfl (int_eq (fmap_rv hab hk)) ?_
 refine wa_takeP (i := 17) (d := 14) 1 rfl (by kernel_rfl) (by kernel_rfl) (by kernel_rfl) rfl rfl rfl (fun w18 => run_assign rfl rfl) ?_
 refine wa_takeP (i := 18) (d := 15) 0 rfl (by kernel_rfl) (by kernel_rfl) (by kernel_rfl) rfl rfl rfl (fun w19 => run_assign rfl rfl) ?_
 refine wa_end (by kernel_rfl) (fun w20 S20 => ?_)
 refine nm_sub [(6, _), (12, _), (14, _), (15, _)] ⟨rfl, rfl, rfl, rfl, trivial⟩ ?_
 refine nm_thn ?_
 refine ws_seqN SOpB_n5 SOpB_n6 rfl rfl rfl ?_
 refine ws_region rfl ?_
 refine wl_op (k := 0) (k' := 1) rfl rfl rfl (wo_run rfl rfl (run_load1 rfl rfl Try.underlying40 rfl (S20.boxc (i := 5) rfl rfl)) ?_)
 refine wl_op (k := 1) (k' := 2) rfl rfl rfl (wo_run rfl rfl (run_nilCheck rfl rfl) ?_)
 refine wl_op (k := 2) (k' := 3) rfl rfl rfl (wo_run rfl rfl (run_fieldAddr rfl rfl Try.underlying46 rfl (ce25) (nf25)) ?_)
 refine wl_op (k := 3) (k' := 4) rfl rfl rfl (wo_run rfl rfl (run_load1 rfl rfl Try.underlying25 rfl (S20.boxc (i := 4) rfl rfl)) ?_)
 refine wl_op (k := 4) (k' := 5) rfl rfl rfl (wo_run rfl rfl (run_move rfl rfl) ?_)
 refine wl_op (k := 5) (k' := 6) rfl rfl rfl (wo_run rfl rfl (run_indexR (C := cdInt) (i := 3) (fcI d (k + 2)) rfl rfl rfl sl25 S20 rfl (by first | rfl | omega) (by first | omega | (simp only [lens]; omega))) ?_)
 refine wl_op (k := 6) (k' := 7) rfl rfl rfl (wo_run rfl rfl (run_load1 rfl rfl Try.underlying3 rfl (S20.rowc (i := 3) (e := fcI d (k + 2)) (j := 0) rfl (by first | omega | (simp only [lens]; omega)) rfl rfl)) ?_)
 refine wl_op (k := 7) (k' := 8) rfl rfl rfl (wo_run rfl rfl (run_geq rfl rfl rfl) ?_)
 refine wl_op (k := 8) (k' := 9) rfl rfl rfl (wo_run rfl rfl (run_move rfl rfl) ?_)
 refine wl_split (t := 108) rfl (fun hg108 => ?_) (fun hg108 => ?_)
 ·replace hg108 := of_decide_eq_true hg108
  refine wl_opG (k := 9) (k' := 10) rfl rfl ⟨_, _, _, rfl, rfl, rfl, rfl⟩ rfl (wo_run rfl rfl (run_load1 rfl rfl Try.underlying40 rfl (S20.boxc (i := 5) rfl rfl)) ?_)
  refine wl_opG (k := 10) (k' := 11) rfl rfl ⟨_, _, _, rfl, rfl, rfl, rfl⟩ rfl (wo_run rfl rfl (run_nilCheck rfl rfl) ?_)
  refine wl_opG (k := 11) (k' := 12) rfl rfl ⟨_, _, _, rfl, rfl, rfl, rfl⟩ rfl (wo_run rfl rfl (run_fieldAddr rfl rfl Try.underlying46 rfl (ce25) (nf25)) ?_)
  refine wl_opG (k := 12) (k' := 13) rfl rfl ⟨_, _, _, rfl, rfl, rfl, rfl⟩ rfl (wo_run rfl rfl (run_load1 rfl rfl Try.underlying25 rfl (S20.boxc (i := 4) rfl rfl)) ?_)
  refine wl_opG (k := 13) (k' := 14) rfl rfl ⟨_, _, _, rfl, rfl, rfl, rfl⟩ rfl (wo_run rfl rfl (run_move rfl rfl) ?_)
  refine wl_opG (k := 14) (k' := 15) rfl rfl ⟨_, _, _, rfl, rfl, rfl, rfl⟩ rfl (wo_run rfl rfl (run_indexR (C := cdInt) (i := 3) (fcI d (revC (k + 2))) rfl rfl rfl sl25 S20 rfl (by first | rfl | omega) (by first | omega | (simp only [lens]; omega))) ?_)
  refine wl_opG (k := 15) (k' := 16) rfl rfl ⟨_, _, _, rfl, rfl, rfl, rfl⟩ rfl (wo_run rfl rfl (run_load1 rfl rfl Try.underlying3 rfl (S20.rowc (i := 3) (e := fcI d (revC (k + 2))) (j := 0) rfl (by first | omega | (simp only [lens]; omega)) rfl rfl)) ?_)
  refine wl_opG (k := 16) (k' := 17) rfl rfl ⟨_, _, _, rfl, rfl, rfl, rfl⟩ rfl (wo_run rfl rfl (run_lss rfl rfl rfl) ?_)
  refine wl_op (k := 17) (k' := 18) rfl rfl rfl (wo_run rfl rfl (run_pickT rfl rfl rfl) ?_)
  refine wl_end rfl ?_
  refine nm_sub [(6, _), (12, _), (14, _), (15, _), (117, _)] ⟨rfl, rfl, rfl, rfl, rfl, trivial⟩ ?_
  refine nm_thn ?_
  refine ws_condN SOpB_n7 SOpB_n8 rfl rfl rfl rfl (fun hb117 => ?_) (fun hb117 => ?_)
  ·replace hb117 := of_decide_eq_true hb117
   obtain ⟨hp2, _, _⟩ := part_set hS hp hadj hg108
   have hun := unc_set hS hp hadj hg108 hb117
   have hlt0 : unc d (sh.set (fcI d (revC (k + 2))) (1 - ga sh (fcI d (k + 2)))) < unc d sh0 := by cases e9 : b; (rw [(hb0 e9).1] at hun ⊢; omega); (have := hb1 e9; omega)
   have S21 := S20.pick [6, 0, 1, 2, 3, 4, 5] [_, _, _, _, _, _, _] (by decide) ⟨rfl, rfl, rfl, rfl, rfl, rfl, rfl, trivial⟩; clear S20
   refine ws_drawN [_] [_, _, _, _, _, _] rfl (by kernel_rfl) S21 16 rfl ?_
   clear S21
   change WA _ _ _ _ _ _ _ _ _ _ _ _ [_, _, _, _, _, _, _]
   refine wa_take (i := 0) (d := 118) 15 rfl (by kernel_rfl) (by kernel_rfl) (by kernel_rfl) rfl rfl rfl (fun M20 N20 w21 hle20 S22 => .inl (run_load1 rfl rfl Try.underlying40 rfl (S22.suf.boxc (i := 5) rfl rfl))) ?_
   refine wa_takeP (i := 1) (d := 119) 14 rfl (by kernel_rfl) (by kernel_rfl) (by kernel_rfl) rfl rfl rfl (fun w22 => run_nilCheck rfl rfl) ?_
   refine wa_takeP (i := 2) (d := 120) 13 rfl (by kernel_rfl) (by kernel_rfl) (by kernel_rfl) rfl rfl rfl (fun w23 => run_fieldAddr rfl rfl Try.underlying46 rfl (ce25) (nf25)) ?_
   refine wa_take (i := 3) (d := 121) 12 rfl (by kernel_rfl) (by kernel_rfl) (by kernel_rfl) rfl rfl rfl (fun M23 N23 w24 hle23 S25 => .inl (run_load1 rfl rfl Try.underlying25 rfl (S25.suf.boxc (i := 4) rfl rfl))) ?_
   refine wa_takeP (i := 4) (d := 122) 11 rfl (by kernel_rfl) (by kernel_rfl) (by kernel_rfl) rfl rfl rfl (fun w25 => run_move rfl rfl) ?_
   refine wa_take (i := 5) (d := 123) 10 rfl (by kernel_rfl) (by kernel_rfl) (by kernel_rfl) rfl rfl rfl (fun M25 N25 w26 hle25 S27 => .inl (run_load1 rfl rfl Try.underlying40 rfl (S27.suf.boxc (i := 5) rfl rfl))) ?_
   refine wa_takeP (i := 6) (d := 124) 9 rfl (by kernel_rfl) (by kernel_rfl) (by kernel_rfl) rfl rfl rfl (fun w27 => run_nilCheck rfl rfl) ?_
   refine wa_takeP (i := 7) (d := 125) 8 rfl (by kernel_rfl) (by kernel_rfl) (by kernel_rfl) rfl rfl rfl (fun w28 => run_fieldAddr rfl rfl Try.underlying46 rfl (ce25) (nf25)) ?_
   refine wa_take (i := 8) (d := 126) 7 rfl (by kernel_rfl) (by kernel_rfl) (by kernel_rfl) rfl rfl rfl (fun M28 N28 w29 hle28 S30 => .inl (run_load1 rfl rfl Try.underlying25 rfl (S30.suf.boxc (i := 4) rfl rfl))) ?_
   refine wa_takeP (i := 9) (d := 127) 6 rfl (by kernel_rfl) (by kernel_rfl) (by kernel_rfl) rfl rfl rfl (fun w30 => run_move rfl rfl) ?_
   refine wa_take (i := 10) (d := 128) 5 rfl (by kernel_rfl) (by kernel_rfl) (by kernel_rfl) rfl rfl rfl (fun M30 N30 w31 hle30 S32 => .inl (run_indexR (C := cdInt) (i := 3) (fcI d (k + 2)) rfl rfl rfl sl25 S32.suf rfl (by first | rfl | omega) (by first | omega | (simp only [lens]; omega)))) ?_
   refine wa_take (i := 11) (d := 129) 4 rfl (by kernel_rfl) (by kernel_rfl) (by kernel_rfl) rfl rfl rfl (fun M31 N31 w32 hle31 S33 => .inl (run_load1 rfl rfl Try.underlying3 rfl (S33.suf.rowc (i := 3) (e := fcI d (k + 2)) (j := 0) rfl (by first | omega | (simp only [lens]; omega)) rfl rfl))) ?_
   refine wa_takeP (i := 12) (d := 130) 3 rfl (by kernel_rfl) (by kernel_rfl) (by kernel_rfl) rfl rfl rfl (fun w33 => run_sub rfl rfl rfl (by first | omega | (simp only [lens]; omega))) ?_
   refine wa_take (i := 13) (d := 131) 2 rfl (by kernel_rfl) (by kernel_rfl) (by kernel_rfl) rfl rfl rfl (fun M33 N33 w34 hle33 S35 => .inl (run_indexR (C := cdInt) (i := 3) (fcI d (revC (k + 2))) rfl rfl rfl sl25 S35.suf rfl (by first | rfl | omega) (by first | omega | (simp only [lens]; omega)))) ?_
   refine wa_only (i := 14) 1 rfl (by kernel_rfl) rfl rfl (fun w36 S37 => ?_)
   refine (wo_storeR (C := cdInt) (i := 4) (e := fcI d (revC (k + 2))) (j := 0) (us := [_]) (H' := [_, _, _, _, _, _, _]) (1 - (ga sh (fcI d (k + 2)))) rfl rfl S37 rfl (by first | omega | (simp only [lens]; omega)) rfl rfl rfl sz3 rfl rfl rfl rfl ?_)
   intro w37 S38; clear S37
   refine LeftW.turn (by kernel_rfl) S38 ?_; clear S38
   change WA _ _ _ _ _ _ _ _ _ _ _ _ [_, _, _, _, _, _, _]
   refine wa_only (i := 15) 0 rfl (by kernel_rfl) rfl rfl (fun w39 S40 => ?_)
   refine (wo_storeB (i := 0) (us := [_]) (l' := [_]) (H' := [_, _, _, _, _, _, _]) rfl rfl S40 rfl rfl rfl rfl sz4 rfl rfl rfl rfl ?_)
   intro w40 S41; clear S40
   refine LeftW.turn (by kernel_rfl) S41 ?_; clear S41
   change WA _ _ _ _ _ _ _ _ _ _ _ _ [_, _, _, _, _, _, _]
   refine wa_end (by kernel_rfl) (fun w41 S42 => ?_)
   refine nm_blk ?_
   refine nm_lp ?_
   intro ax_ hax_
   exact ⟨_, _, Hp.le_refl _, S42.pick [1, 3, 4, 5, 6, 0] [_, _, _, _, _, _] (by decide) ⟨rfl, rfl, rfl, rfl, rfl, rfl, trivial⟩, _, true, _, rfl, hp2, fun h => (by cases h), fun _ => (by have := hlt0; omega)⟩
  ·replace hb117 := of_decide_eq_false hb117
   have hno : ¬(0 ≤ ga sh (fcI d (k + 2)) ∧ ga sh (fcI d (revC (k + 2))) < 0) := fun h9 => (by omega)
   refine ws_skip rfl ?_
   refine nm_blk ?_
   refine nm_lp ?_
   intro ax_ hax_
   exact ⟨_, _, Hp.le_refl _, S20.pick [0, 2, 3, 4, 5, 6] [_, _, _, _, _, _] (by decide) ⟨rfl, rfl, rfl, rfl, rfl, rfl, trivial⟩, sh, b, _, rfl, hp, fun h => ⟨(hb0 h).1, fun q hq => (by by_cases e : q = k; (subst e; exact hno); exact (hb0 h).2 q (by omega))⟩, hb1⟩
 ·replace hg108 := of_decide_eq_false hg108
  have hno : ¬(0 ≤ ga sh (fcI d (k + 2)) ∧ ga sh (fcI d (revC (k + 2))) < 0) := fun h9 => (by omega)
  refine wl_no (k := 9) (k' := 10) (d := 109) rfl rfl ⟨_, _, _, rfl, rfl, rfl, rfl⟩ rfl rfl ?_
  refine wl_no (k := 10) (k' := 11) (d := 110) rfl rfl ⟨_, _, _, rfl, rfl, rfl, rfl⟩ rfl rfl ?_
  refine wl_no (k := 11) (k' := 12) (d := 111) rfl rfl ⟨_, _, _, rfl, rfl, rfl, rfl⟩ rfl rfl ?_
  refine wl_no (k := 12) (k' := 13) (d := 112) rfl rfl ⟨_, _, _, rfl, rfl, rfl, rfl⟩ rfl rfl ?_
  refine wl_no (k := 13) (k' := 14) (d := 113) rfl rfl ⟨_, _, _, rfl, rfl, rfl, rfl⟩ rfl rfl ?_
  refine wl_no (k := 14) (k' := 15) (d := 114) rfl rfl ⟨_, _, _, rfl, rfl, rfl, rfl⟩ rfl rfl ?_
  refine wl_no (k := 15) (k' := 16) (d := 115) rfl rfl ⟨_, _, _, rfl, rfl, rfl, rfl⟩ rfl rfl ?_
  refine wl_no (k := 16) (k' := 17) (d := 116) rfl rfl ⟨_, _, _, rfl, rfl, rfl, rfl⟩ rfl rfl ?_
  refine wl_op (k := 17) (k' := 18) rfl rfl rfl (wo_run rfl rfl (run_pickF rfl rfl rfl) ?_)
  refine wl_end rfl ?_
  refine nm_sub [(6, _), (12, _), (14, _), (15, _), (117, _)] ⟨rfl, rfl, rfl, rfl, rfl, trivial⟩ ?_
  refine nm_thn ?_
  refine ws_condFN SOpB_n8 rfl rfl rfl ?_
  refine ws_skip rfl ?_
  refine nm_blk ?_
  refine nm_lp ?_
  intro ax_ hax_
  exact ⟨_, _, Hp.le_refl _, S20.pick [0, 2, 3, 4, 5, 6] [_, _, _, _, _, _] (by decide) ⟨rfl, rfl, rfl, rfl, rfl, rfl, trivial⟩, sh, b, _, rfl, hp, fun h => ⟨(hb0 h).1, fun q hq => (by by_cases e : q = k; (subst e; exact hno); exact (hb0 h).2 q (by omega))⟩, hb1⟩
end InF
namespace InD
noncomputable def SOpT_n1 : Code := SOp_tl
noncomputable def SOpT_n2 : Code := cL SOpT_n1
noncomputable def SOpT_n3 : Code := cR SOpT_n1
noncomputable def SOpT_n4 : Code := cL SOpT_n2
noncomputable def SOpT_n5 : Code := cR SOpT_n2
noncomputable def SOpT_n6 : Code := cL SOpT_n5
noncomputable def SOpT_n7 : Code := cL SOpT_n6
noncomputable def SOpT_n8 : Code := cL SOpT_n7
noncomputable def SOpT_n9 : Code := cR SOpT_n7
noncomputable def SOpT_n10 : Code := cL SOpT_n8
noncomputable def SOpT_n11 : Code := cR SOpT_n8
noncomputable def SOpT_n12 : Code := cL SOpT_n11
noncomputable def SOpT_n13 : Code := cR SOpT_n11
noncomputable def SOpT_n14 : Code := cL SOpT_n9
noncomputable def SOpT_n15 : Code := cR SOpT_n9
noncomputable def SOpT_n16 : Code := cL SOpT_n14
noncomputable def SOpT_n17 : Code := cL SOpT_n16
noncomputable def SOpT_n18 : Code := cR SOpT_n16
noncomputable def SOpT_n19 : Code := cL SOpT_n18
noncomputable def SOpT_n20 : Code := cR SOpT_n18
noncomputable def SOpT_n21 : Code := cL SOpT_n20
noncomputable def SOpT_n22 : Code := cL SOpT_n15
noncomputable def SOpT_n23 : Code := cR SOpT_n15
noncomputable def SOpT_n24 : Code := cL SOpT_n3
noncomputable def SOpT_n25 : Code := cR SOpT_n3
set_option maxHeartbeats 1000000 in
set_option maxRecDepth 10000 in
theorem SOp_tail {w : World} {M : Hp} {X : Fr} (d : Dg) {gsh : Nat} {cA iA oA : Option Addr} {cc ic oc : Nat} {gqm gq41 gq6 : Nat} {vrsh : Value} {sh0 : List Int} (hsb : BxM M gsh 61 [.slice cA d.crs.length cc, .int .i64 d.loops, .slice iA (tabL d false (4 * d.crs.length)).length ic, .slice oA (tabL d true (4 * d.crs.length)).length oc]) (hsc : RdA cdCr M cA cc d.crs) (hsi : RdA cdPl M iA ic (tabL d false (4 * d.crs.length))) (hso : RdA cdPl M oA oc (tabL d true (4 * d.crs.length))) (hn : d.crs.length ≤ 16) (hS : OkS d) (hp0 : PartC d sh0) {R : Ending → World → Prop} {C : InF.Ctx} (hCr : C.r = none) (hC : C.Q = bodyPostM Fence.wide 0 Try.prog Try.f12 R) (hR : ∀ u N w2, M.le N → SH w2 N X [] → (∃ g gsh gm cA iA oA sA cc ic oc sc, u = .tuple [.pointer (some ⟨g, 0, none⟩), .int .i64 0].toArray ∧ ChM N d g gsh gm cA iA oA sA cc ic oc sc) → R (.returned u) w2)
  (S : SH w M X [Rs.mks [], Rs.mp (fun x => Value.agg (cdDa.f x).toArray) (Value.int .i64) gqm (fmap d), Rs.row cdInt vrsh sh0, Rs.box gq41 46 [.pointer (some ⟨gsh, 0, none⟩), .map (some gqm), vrsh], Rs.box gq6 40 [.pointer (some ⟨gq41, 0, none⟩)]]) :
  WS Try.prog (mkD []) 134 C SOp_tl [] [(4, .pointer (some ⟨gsh, 0, none⟩)), (6, .pointer (some ⟨gq6, 0, none⟩))] w := by
 have hab := hS.ab
 refine ws_seqN SOpT_n2 SOpT_n3 rfl rfl rfl ?_
 refine ws_seqN SOpT_n4 SOpT_n5 rfl rfl rfl ?_
 refine ws_region rfl ?_
 refine wl_op (k := 0) (k' := 1) rfl rfl rfl (wo_alloc (l := [_]) rfl rfl rfl zr4 rfl S ?_)
 intro gb1 w1 S1; clear S
 refine wl_op (k := 1) (k' := 2) rfl rfl rfl (wo_storeB (i := 0) (us := [_]) (l' := [_]) (H' := [_, _, _, _, _, _]) rfl rfl S1 rfl rfl rfl rfl sz4 rfl rfl rfl rfl ?_)
 intro w2 S2; clear S1
 refine wl_end rfl ?_
 refine nm_thn ?_
 refine ws_blockN SOpT_n6 5 rfl rfl rfl ?_
 refine ws_loopE (fun mx_ ax_ wx_ => ∃ (Ds : List Nat) (sh : List Int) (b : Bool) (vrl : Value) (gbx : Nat) (M1 : Hp), M.le M1 ∧ mx_ = (if b = true then unc d sh + 1 else 0) ∧ EnvD (mkD Ds) 134 [(4, .pointer (some ⟨gsh, 0, none⟩)), (6, .pointer (some ⟨gq6, 0, none⟩)), (12, .pointer (some ⟨gbx, 0, none⟩))] ax_ ∧ SH wx_ M1 X [Rs.box gbx 4 [.bool b], Rs.mks Ds, Rs.mp (fun x => Value.agg (cdDa.f x).toArray) (Value.int .i64) gqm (fmap d), Rs.row cdInt vrl sh, Rs.box gq41 46 [.pointer (some ⟨gsh, 0, none⟩), .map (some gqm), vrl], Rs.box gq6 40 [.pointer (some ⟨gq41, 0, none⟩)]] ∧ PartC d sh ∧ (b = false → ∀ k, k < 4 * d.crs.length → ¬(0 ≤ ga sh (fcI d (k + 2)) ∧ ga sh (fcI d (revC (k + 2))) < 0))) rfl ?_ ?_
 ·intro ax_ hax_
  refine ⟨_, ⟨[], sh0, true, _, _, _, Hp.le_refl _, rfl, hax_.sub ⟨rfl, rfl, rfl, trivial⟩, S2.pick [0, 1, 2, 3, 4, 5] [_, _, _, _, _, _] (by decide) ⟨rfl, rfl, rfl, rfl, rfl, rfl, trivial⟩, ?hq1f0, ?hq1f1⟩⟩
  case hq1f0 => exact hp0
  case hq1f1 => (intro h; cases h)
 ·rintro m1 a1 w3 ⟨Ds, sh, b, vrl, gbx, M1, hle1, rfl, he1, S3, hp, hdone⟩
  clear S2
  refine ws_in he1 (c := SOpT_n7) rfl ?_
  clear he1 a1
  replace hsb := hsb.mono hle1
  replace hsc := hsc.mono hle1
  replace hsi := hsi.mono hle1
  replace hso := hso.mono hle1
  refine ws_seqN SOpT_n8 SOpT_n9 rfl rfl rfl ?_
  refine ws_seqN SOpT_n10 SOpT_n11 rfl rfl rfl ?_
  refine ws_region rfl ?_
  refine wl_op (k := 0) (k' := 1) rfl rfl rfl (wo_run rfl rfl (run_load1 rfl rfl Try.underlying4 rfl (S3.boxc (i := 0) rfl rfl)) ?_)
  refine wl_end rfl ?_
  refine nm_thn ?_
  refine ws_condN SOpT_n12 SOpT_n13 rfl rfl rfl rfl (fun hb79 => ?_) (fun hb79 => ?_)
  ·refine ws_skip rfl ?_
   refine nm_sub [(4, _), (6, _), (12, _)] ⟨rfl, rfl, rfl, trivial⟩ ?_
   refine nm_thn ?_
   refine ws_seqN SOpT_n14 SOpT_n15 rfl rfl rfl ?_
   refine ws_blockN SOpT_n16 6 rfl rfl rfl ?_
   refine ws_seqN SOpT_n17 SOpT_n18 rfl rfl rfl ?_
   refine ws_region rfl ?_
   refine wl_op (k := 0) (k' := 1) rfl rfl rfl (wo_storeB (i := 0) (us := [_]) (l' := [_]) (H' := [_, _, _, _, _, _]) rfl rfl S3 rfl rfl rfl rfl sz4 rfl rfl rfl rfl ?_)
   intro w4 S4; clear S3
   refine wl_end rfl ?_
   refine nm_thn ?_
   refine ws_seqN SOpT_n19 SOpT_n20 rfl rfl rfl ?_
   refine ws_region rfl ?_
   refine wl_op (k := 0) (k' := 1) rfl rfl rfl (wo_run rfl rfl (run_move rfl rfl) ?_)
   refine wl_op (k := 1) (k' := 2) rfl rfl rfl (wo_ct rfl rfl rfl rfl rfl rfl rfl cf21 S4 (Darts_t d hsb hsc hsi hso S4.lend) ?_)
   intro vw5 w5 M2 hle2 S5 hRw5; clear S4
   replace hsb := hsb.mono hle2
   replace hsc := hsc.mono hle2
   replace hsi := hsi.mono hle2
   replace hso := hso.mono hle2
   obtain ⟨bd1, rfl, hbx1⟩ := hRw5
   refine wl_end rfl ?_
   refine nm_sub [(4, _), (6, _), (12, _), (81, _)] ⟨rfl, rfl, rfl, rfl, trivial⟩ ?_
   refine nm_thn ?_
   refine ws_blockN SOpT_n21 7 rfl rfl rfl ?_
   refine ws_rangeFunc (p := 82) (f := 35) (lb := [_]) (asg := rgfA SOp_rf) (bd := rgfB SOp_rf) (enc := encD) (N := 4 * d.crs.length) hCr rfl rfl rfl cf35 (S5.pick [1, 2, 3, 4, 5, 0] [_, _, _, _, _, _] (by decide) ⟨rfl, rfl, rfl, rfl, rfl, rfl, trivial⟩) (OpI d gsh gqm gq41 gq6 gbx sh) (OpI1 d gsh gqm gq41 gq6 gbx sh) ?_ (InF.Darts1_iter d hsb hsc hsi hso hbx1 hn) ?_ ?_ ?_
   ·exact ⟨sh, false, _, rfl, hp, fun _ => ⟨rfl, fun q hq => (by omega)⟩, fun h => (by cases h)⟩
   ·intro k M' H' w' C' R0 hk hle S' hI
    exact InF.SOp_assign ⟨rfl, rfl, rfl, trivial⟩ S' hI
   ·intro k M' H' w' C' R0 a hk hle S' hI1
    exact InF.SOp_body hS hk S' hI1
   ·intro D1 M3 H1 w6 hle3 S6 hI
    clear S5
    obtain ⟨sh2, b2, vr2, rfl, hp2, hx0, hx1⟩ := hI
    change SH _ _ _ [Rs.mks (D1 :: Ds), Rs.mp (fun x => Value.agg (cdDa.f x).toArray) (Value.int .i64) gqm (fmap d), Rs.row cdInt vr2 sh2, _, _, _] at S6
    replace hsb := hsb.mono hle3
    replace hsc := hsc.mono hle3
    replace hsi := hsi.mono hle3
    replace hso := hso.mono hle3
    replace hbx1 := hbx1.mono hle3
    refine nm_blk ?_
    refine nm_blk ?_
    refine nm_sub [(4, _), (6, _), (12, _)] ⟨rfl, rfl, rfl, trivial⟩ ?_
    refine nm_thn ?_
    refine ws_seqN SOpT_n22 SOpT_n23 rfl rfl rfl ?_
    refine ws_region rfl ?_
    refine wl_op (k := 0) (k' := 1) rfl rfl rfl (wo_run rfl rfl (run_load1 rfl rfl Try.underlying4 rfl (S6.boxc (i := 5) rfl rfl)) ?_)
    refine wl_end rfl ?_
    refine nm_sub [(4, _), (6, _), (132, _)] ⟨rfl, rfl, rfl, trivial⟩ ?_
    refine nm_thn ?_
    refine ws_region rfl ?_
    refine wl_op (k := 0) (k' := 1) rfl rfl rfl (wo_alloc (l := [_]) rfl rfl rfl zr4 rfl S6 ?_)
    intro gb2 w7 S7; clear S6
    refine wl_op (k := 1) (k' := 2) rfl rfl rfl (wo_storeB (i := 0) (us := [_]) (l' := [_]) (H' := [_, _, _, _, _, _, _]) rfl rfl S7 rfl rfl rfl rfl sz4 rfl rfl rfl rfl ?_)
    intro w8 S8; clear S7
    refine wl_end rfl ?_
    refine nm_lp ?_
    intro ax_ hax_
    refine ⟨_, ?hq2m, ⟨(D1 :: Ds), sh2, b2, _, _, _, ((hle1.trans hle2).trans hle3), rfl, hax_.sub ⟨rfl, rfl, rfl, trivial⟩, S8.pick [0, 1, 2, 3, 4, 5] [_, _, _, _, _, _] (by decide) ⟨rfl, rfl, rfl, rfl, rfl, rfl, trivial⟩, ?hq2f0, ?hq2f1⟩⟩
    case hq2f0 => assumption
    case hq2f1 => (intro h; exact (hx0 h).2)
    case hq2m => (rw [if_pos hb79]; cases b2; (rw [if_neg Bool.false_ne_true]; omega); (rw [if_pos rfl]; have := hx1 rfl; omega))
  ·refine ws_exit rfl rfl ?_
   refine nm_sub [(6, _)] ⟨rfl, trivial⟩ ?_
   refine nm_thn ?_
   refine ws_seqN SOpT_n24 SOpT_n25 rfl rfl rfl ?_
   refine ws_region rfl ?_
   refine wl_op (k := 0) (k' := 1) rfl rfl rfl (wo_run rfl rfl (run_load1 rfl rfl Try.underlying40 rfl (S3.boxc (i := 5) rfl rfl)) ?_)
   refine wl_op (k := 1) (k' := 2) rfl rfl rfl (wo_run rfl rfl (run_assign rfl rfl) ?_)
   refine wl_op (k := 2) (k' := 3) rfl rfl rfl (wo_run rfl rfl (run_assign rfl rfl) ?_)
   refine wl_end rfl ?_
   refine nm_sub [(2, _), (3, _)] ⟨rfl, rfl, trivial⟩ ?_
   refine nm_thn ?_
   have hb0 : b = false := hb79
   have hall := part_all hS hp (fun x y ha => adj_darts hS (P := fun i => 0 ≤ ga sh i) (fun k hk h0 => (by have := hdone hb0 k hk; omega)) ha)
   have hsl := hp.1
   have hfn := hS.fn
   obtain ⟨M4, hle4, S9, ⟨A1, c1, e1, hr1⟩⟩ := S3.pubrow (i := 3) (H' := [_, _, _, _, _, _]) rfl rfl (by show _ * 8 ≤ _; first | omega | (simp only [lens]; omega))
   clear S3; subst e1
   replace hsb := hsb.mono hle4
   replace hsc := hsc.mono hle4
   replace hsi := hsi.mono hle4
   replace hso := hso.mono hle4
   obtain ⟨M5, hle5, S10, hm1⟩ := S9.pubmap (i := 2) (H' := [_, _, _, _, _, _]) rfl rfl; clear S9
   replace hsb := hsb.mono hle5
   replace hsc := hsc.mono hle5
   replace hsi := hsi.mono hle5
   replace hso := hso.mono hle5
   replace hr1 := hr1.mono hle5
   obtain ⟨M6, hle6, S11, hbc1⟩ := S10.pubB (i := 4) (H' := [_, _, _, _, _, _]) rfl rfl
   clear S10
   replace hsb := hsb.mono hle6
   replace hsc := hsc.mono hle6
   replace hsi := hsi.mono hle6
   replace hso := hso.mono hle6
   replace hr1 := hr1.mono hle6
   replace hm1 := hm1.mono hle6
   refine ws_retDs (Hs := []) hC rfl [_, _] rfl (S11.pick [1] [_] (by decide) ⟨rfl, trivial⟩) (fun w9 S9 => ⟨⟨rfl, rfl, trivial⟩, ?_⟩)
   refine hR _ _ _ (((hle1.trans hle4).trans hle5).trans hle6) S9 ⟨gq41, gsh, gqm, cA, iA, oA, A1, cc, ic, oc, c1, rfl, ?_⟩
   rw [hall] at hbc1 hr1
   exact ⟨hbc1, ⟨hsb, hsc, hsi, hso⟩, hm1, hr1⟩
end InD
namespace InF.G
noncomputable def SOpF_n0 : Code := Try.f12.body.getD .skip
noncomputable def SOpF_n1 : Code := cL SOpF_n0
noncomputable def SOpF_n2 : Code := cR SOpF_n0
noncomputable def SOpF_n3 : Code := cL SOpF_n2
noncomputable def SOpF_n4 : Code := cR SOpF_n2
noncomputable def SOpF_n5 : Code := cL SOpF_n4
noncomputable def SOpF_n6 : Code := cR SOpF_n4
noncomputable def SOpF_n7 : Code := cL SOpF_n5
noncomputable def SOpF_n8 : Code := cL SOpF_n7
noncomputable def SOpF_n9 : Code := cR SOpF_n7
noncomputable def SOpF_n10 : Code := cL SOpF_n9
noncomputable def SOpF_n11 : Code := cR SOpF_n9
noncomputable def SOpF_n12 : Code := cL SOpF_n10
noncomputable def SOpF_n13 : Code := cR SOpF_n10
noncomputable def SOpF_n14 : Code := cL SOpF_n11
noncomputable def SOpF_n15 : Code := cR SOpF_n11
noncomputable def SOpF_n16 : Code := cL SOpF_n15
noncomputable def SOpF_n17 : Code := cR SOpF_n15
noncomputable def SOpF_n18 : Code := cL SOpF_n16
noncomputable def SOpF_n19 : Code := cR SOpF_n16
noncomputable def SOpF_n20 : Code := cL SOpF_n6
noncomputable def SOpF_n21 : Code := cR SOpF_n6
noncomputable def SOpF_n22 : Code := cL SOpF_n21
noncomputable def SOpF_n23 : Code := cR SOpF_n21
noncomputable def SOpF_n24 : Code := cL SOpF_n23
noncomputable def SOpF_n25 : Code := cR SOpF_n23
noncomputable def SOpF_n26 : Code := cL SOpF_n24
noncomputable def SOpF_n27 : Code := cR SOpF_n24
noncomputable def SOpF_n28 : Code := cL SOpF_n27
noncomputable def SOpF_n29 : Code := cL SOpF_n28
noncomputable def SOpF_n30 : Code := cL SOpF_n29
noncomputable def SOpF_n31 : Code := cR SOpF_n29
noncomputable def SOpF_n32 : Code := cL SOpF_n31
noncomputable def SOpF_n33 : Code := cR SOpF_n31
noncomputable def SOpF_n34 : Code := cL SOpF_n32
noncomputable def SOpF_n35 : Code := cR SOpF_n32
noncomputable def SOpF_n36 : Code := cL SOpF_n33
noncomputable def SOpF_n37 : Code := cR SOpF_n33
noncomputable def SOpF_n38 : Code := cL SOpF_n36
noncomputable def SOpF_n39 : Code := cL SOpF_n38
noncomputable def SOpF_n40 : Code := cR SOpF_n38
noncomputable def SOpF_n41 : Code := cL SOpF_n40
noncomputable def SOpF_n42 : Code := cR SOpF_n40
noncomputable def SOpF_n43 : Code := cL SOpF_n42
noncomputable def SOpF_n44 : Code := cR SOpF_n42
noncomputable def SOpF_n45 : Code := cL SOpF_n44
noncomputable def SOpF_n46 : Code := cL SOpF_n45
noncomputable def SOpF_n47 : Code := cL SOpF_n46
noncomputable def SOpF_n48 : Code := cR SOpF_n46
noncomputable def SOpF_n49 : Code := cL SOpF_n48
noncomputable def SOpF_n50 : Code := cR SOpF_n48
noncomputable def SOpF_n51 : Code := cL SOpF_n49
noncomputable def SOpF_n52 : Code := cR SOpF_n49
noncomputable def SOpF_n53 : Code := cL SOpF_n50
noncomputable def SOpF_n54 : Code := cR SOpF_n50
noncomputable def SOpF_n55 : Code := cL SOpF_n53
noncomputable def SOpF_n56 : Code := cL SOpF_n55
noncomputable def SOpF_n57 : Code := cR SOpF_n55
noncomputable def SOpF_n58 : Code := cL SOpF_n25
noncomputable def SOpF_n59 : Code := cR SOpF_n25
set_option maxHeartbeats 1000000 in
set_option maxRecDepth 10000 in
theorem SOpen_t {w : World} {M : Hp} {X : Fr} (d : Dg) {dcrsA : Option Addr} {dcrsc : Nat} (hdcrs : RdA cdCr (M.un X.h) dcrsA dcrsc d.crs) (S : SH w M X []) : Ct Try.prog 12 [.agg [.slice dcrsA d.crs.length dcrsc, .int .i64 d.loops].toArray] w M X (ChartT d) := by
 unfold Ct
 refine InF.calls_marks (b := SOpF_n0) Try.func12 rfl Try.ntmps12 rfl (fun C hCr hC => ?_)
 refine ws_sub [(0, _)] ⟨rfl, trivial⟩ ?_
 refine ws_seqN SOpF_n1 SOpF_n2 rfl rfl rfl ?_
 refine ws_region rfl ?_
 refine wl_op (k := 0) (k' := 1) rfl rfl rfl (wo_box (l := [_, _]) rfl rfl rfl rfl rfl S ?_)
 intro gb1 w1 S1; clear S
 refine wl_op (k := 1) (k' := 2) rfl rfl rfl (wo_run rfl rfl (run_assign rfl rfl) ?_)
 refine wl_op (k := 2) (k' := 3) rfl rfl rfl (wo_run rfl rfl (run_assign rfl rfl) ?_)
 refine wl_end rfl ?_
 refine nm_sub [(1, _)] ⟨rfl, trivial⟩ ?_
 refine nm_thn ?_
 refine ws_seqN SOpF_n3 SOpF_n4 rfl rfl rfl ?_
 refine ws_region rfl ?_
 refine wl_op (k := 0) (k' := 1) rfl rfl rfl (wo_run rfl rfl (run_loadN (us := [_, _]) rfl rfl Try.underlying24 rfl sz24 (S1.boxcs (i := 0) rfl ⟨rfl, rfl, trivial⟩)) ?_)
 refine wl_op (k := 1) (k' := 2) rfl rfl rfl (wo_ct rfl rfl rfl rfl rfl rfl rfl cf18 S1 (Open_t d (hdcrs.mono S1.un_XH) S1.lend) ?_)
 intro vw2 w2 M1 hle1 S2 hRw2; clear S1
 replace hdcrs := hdcrs.mono (Hp.un_mono hle1 S2.mx)
 rcases hRw2 with ⟨hopn18, rfl⟩ | ⟨hopn18, g1, cA18, iA18, oA18, cc18, ic18, oc18, rfl, hsb18, hsc18, hsi18, hso18⟩
 ·refine wl_op (k := 2) (k' := 3) rfl rfl rfl (wo_run rfl rfl (run_move rfl rfl) ?_)
  refine wl_op (k := 3) (k' := 4) rfl rfl rfl (wo_run rfl rfl (run_extract rfl rfl rfl) ?_)
  refine wl_op (k := 4) (k' := 5) rfl rfl rfl (wo_run rfl rfl (run_extract rfl rfl rfl) ?_)
  refine wl_op (k := 5) (k' := 6) rfl rfl rfl (wo_run rfl rfl (run_assign rfl rfl) ?_)
  refine wl_op (k := 6) (k' := 7) rfl rfl rfl (wo_run rfl rfl (run_assign rfl rfl) ?_)
  refine wl_end rfl ?_
  refine nm_sub [(4, _), (5, _)] ⟨rfl, rfl, trivial⟩ ?_
  refine nm_thn ?_
  refine ws_seqN SOpF_n5 SOpF_n6 rfl rfl rfl ?_
  refine ws_blockN SOpF_n7 0 rfl rfl rfl ?_
  refine ws_seqN SOpF_n8 SOpF_n9 rfl rfl rfl ?_
  refine ws_region rfl ?_
  refine wl_op (k := 0) (k' := 1) rfl rfl rfl (wo_run rfl rfl (run_move rfl rfl) ?_)
  refine wl_op (k := 1) (k' := 2) rfl rfl rfl (wo_run rfl rfl (run_neq rfl rfl rfl) ?_)
  refine wl_op (k := 2) (k' := 3) rfl rfl rfl (wo_run rfl rfl (run_assign rfl rfl) ?_)
  refine wl_end rfl ?_
  refine nm_sub [(4, _), (5, _), (21, _)] ⟨rfl, rfl, rfl, trivial⟩ ?_
  refine nm_thn ?_
  refine ws_condN SOpF_n10 SOpF_n11 rfl rfl rfl rfl (fun hb21 => ?_) (fun hb21 => ?_)
  ·replace hb21 := of_decide_eq_true hb21
   refine ws_seqN SOpF_n12 SOpF_n13 rfl rfl rfl ?_
   refine ws_region rfl ?_
   refine wl_op (k := 0) (k' := 1) rfl rfl rfl (wo_run rfl rfl (run_move rfl rfl) ?_)
   refine wl_op (k := 1) (k' := 2) rfl rfl rfl (wo_run rfl rfl (run_assign rfl rfl) ?_)
   refine wl_op (k := 2) (k' := 3) rfl rfl rfl (wo_run rfl rfl (run_assign rfl rfl) ?_)
   refine wl_end rfl ?_
   refine nm_sub [(2, _), (3, _)] ⟨rfl, rfl, trivial⟩ ?_
   refine nm_thn ?_
   refine ws_ret hC [_, _] rfl rfl ⟨rfl, rfl, trivial⟩ ?_
   refine ⟨_, rfl, _, hle1, S2.pick [] [] (by decide) trivial, ?_⟩
   have e0 : errG d = errO d := by unfold errG; rw [if_neg hopn18]
   exact .inl ⟨by rw [e0]; first | decide | exact hopn18, by rw [e0]; rfl⟩
  ·replace hb21 := of_decide_eq_false hb21
   exfalso; omega
 ·obtain ⟨hmo, hpl⟩ := errO_ok hopn18
  obtain ⟨hn, hab, hlo0, hlo1⟩ := mayO hmo
  refine wl_op (k := 2) (k' := 3) rfl rfl rfl (wo_run rfl rfl (run_move rfl rfl) ?_)
  refine wl_op (k := 3) (k' := 4) rfl rfl rfl (wo_run rfl rfl (run_extract rfl rfl rfl) ?_)
  refine wl_op (k := 4) (k' := 5) rfl rfl rfl (wo_run rfl rfl (run_extract rfl rfl rfl) ?_)
  refine wl_op (k := 5) (k' := 6) rfl rfl rfl (wo_run rfl rfl (run_assign rfl rfl) ?_)
  refine wl_op (k := 6) (k' := 7) rfl rfl rfl (wo_run rfl rfl (run_assign rfl rfl) ?_)
  refine wl_end rfl ?_
  refine nm_sub [(4, _), (5, _)] ⟨rfl, rfl, trivial⟩ ?_
  refine nm_thn ?_
  refine ws_seqN SOpF_n5 SOpF_n6 rfl rfl rfl ?_
  refine ws_blockN SOpF_n7 0 rfl rfl rfl ?_
  refine ws_seqN SOpF_n8 SOpF_n9 rfl rfl rfl ?_
  refine ws_region rfl ?_
  refine wl_op (k := 0) (k' := 1) rfl rfl rfl (wo_run rfl rfl (run_move rfl rfl) ?_)
  refine wl_op (k := 1) (k' := 2) rfl rfl rfl (wo_run rfl rfl (run_neq rfl rfl rfl) ?_)
  refine wl_op (k := 2) (k' := 3) rfl rfl rfl (wo_run rfl rfl (run_assign rfl rfl) ?_)
  refine wl_end rfl ?_
  refine nm_sub [(4, _), (5, _), (21, _)] ⟨rfl, rfl, rfl, trivial⟩ ?_
  refine nm_thn ?_
  refine ws_condN SOpF_n10 SOpF_n11 rfl rfl rfl rfl (fun hb21 => ?_) (fun hb21 => ?_)
  ·replace hb21 := of_decide_eq_true hb21
   exfalso; omega
  ·replace hb21 := of_decide_eq_false hb21
   refine ws_seqN SOpF_n14 SOpF_n15 rfl rfl rfl ?_
   refine ws_region rfl ?_
   refine wl_op (k := 0) (k' := 1) rfl rfl rfl (wo_run rfl rfl (run_move rfl rfl) ?_)
   refine wl_op (k := 1) (k' := 2) rfl rfl rfl (wo_ct rfl rfl rfl rfl rfl rfl rfl cf19 S2 (Pieces_t d (hsb18.mono (Hp.le_un _ _)) (hsc18.mono (Hp.le_un _ _)) (hsi18.mono (Hp.le_un _ _)) (hso18.mono (Hp.le_un _ _)) hn hab S2.lend) ?_)
   intro vw3 w3 M2 hle2 S3 hRw3; clear S2
   replace hdcrs := hdcrs.mono (Hp.un_mono hle2 S3.mx)
   replace hsb18 := hsb18.mono hle2
   replace hsc18 := hsc18.mono hle2
   replace hsi18 := hsi18.mono hle2
   replace hso18 := hso18.mono hle2
   obtain ⟨A1, c1, vs1, rfl, hr1, hd1⟩ := hRw3
   have hlenpcsL := hd1.1
   refine wl_op (k := 2) (k' := 3) rfl rfl rfl (wo_run rfl rfl (run_len rfl rfl rfl rfl rfl rfl Try.underlying30) ?_)
   refine wl_op (k := 3) (k' := 4) rfl rfl rfl (wo_run rfl rfl (run_neq rfl rfl rfl) ?_)
   refine wl_op (k := 4) (k' := 5) rfl rfl rfl (wo_run rfl rfl (run_move rfl rfl) ?_)
   refine wl_split (t := 30) rfl (fun hg30 => ?_) (fun hg30 => ?_)
   ·replace hg30 := of_decide_eq_true hg30
    refine wl_no (k := 5) (k' := 6) (d := 31) rfl rfl ⟨_, _, _, rfl, rfl, rfl, rfl⟩ rfl rfl ?_
    refine wl_no (k := 6) (k' := 7) (d := 32) rfl rfl ⟨_, _, _, rfl, rfl, rfl, rfl⟩ rfl rfl ?_
    refine wl_no (k := 7) (k' := 8) (d := 33) rfl rfl ⟨_, _, _, rfl, rfl, rfl, rfl⟩ rfl rfl ?_
    refine wl_no (k := 8) (k' := 9) (d := 34) rfl rfl ⟨_, _, _, rfl, rfl, rfl, rfl⟩ rfl rfl ?_
    refine wl_no (k := 9) (k' := 10) (d := 35) rfl rfl ⟨_, _, _, rfl, rfl, rfl, rfl⟩ rfl rfl ?_
    refine wl_no (k := 10) (k' := 11) (d := 36) rfl rfl ⟨_, _, _, rfl, rfl, rfl, rfl⟩ rfl rfl ?_
    refine wl_op (k := 11) (k' := 12) rfl rfl rfl (wo_run rfl rfl (run_pickT rfl rfl rfl) ?_)
    refine wl_op (k := 12) (k' := 13) rfl rfl rfl (wo_run rfl rfl (run_assign rfl rfl) ?_)
    refine wl_end rfl ?_
    refine nm_sub [(4, _), (25, _)] ⟨rfl, rfl, trivial⟩ ?_
    refine nm_thn ?_
    refine ws_condTN SOpF_n16 rfl rfl rfl ?_
    refine ws_seqN SOpF_n18 SOpF_n19 rfl rfl rfl ?_
    refine ws_region rfl ?_
    refine wl_op (k := 0) (k' := 1) rfl rfl rfl (wo_run rfl rfl (run_assign rfl rfl) ?_)
    refine wl_op (k := 1) (k' := 2) rfl rfl rfl (wo_run rfl rfl (run_assign rfl rfl) ?_)
    refine wl_end rfl ?_
    refine nm_sub [(2, _), (3, _)] ⟨rfl, rfl, trivial⟩ ?_
    refine nm_thn ?_
    refine ws_ret hC [_, _] rfl rfl ⟨rfl, rfl, trivial⟩ ?_
    refine ⟨_, rfl, _, hle1.trans hle2, S3.pick [] [] (by decide) trivial, ?_⟩
    have e0 : errG d = 6 := by unfold errG; rw [if_pos hopn18, if_neg (by rw [oneB_iff]; omega)]
    exact .inl ⟨by rw [e0]; first | decide | exact hopn18, by rw [e0]; rfl⟩
   ·replace hg30 := of_decide_eq_false hg30
    refine wl_opG (k := 5) (k' := 6) rfl rfl ⟨_, _, _, rfl, rfl, rfl, rfl⟩ rfl (wo_run rfl rfl (run_move rfl rfl) ?_)
    refine wl_opG (k := 6) (k' := 7) rfl rfl ⟨_, _, _, rfl, rfl, rfl, rfl⟩ rfl (wo_run rfl rfl (run_nilCheck rfl rfl) ?_)
    refine wl_opG (k := 7) (k' := 8) rfl rfl ⟨_, _, _, rfl, rfl, rfl, rfl⟩ rfl (wo_run rfl rfl (run_fieldAddr rfl rfl Try.underlying61 rfl (ce24) (nf24)) ?_)
    refine wl_opG (k := 8) (k' := 9) rfl rfl ⟨_, _, _, rfl, rfl, rfl, rfl⟩ rfl (wo_run rfl rfl (run_fieldAddr rfl rfl Try.underlying24 rfl (ce3) (nf3)) ?_)
    refine wl_opG (k := 9) (k' := 10) rfl rfl ⟨_, _, _, rfl, rfl, rfl, rfl⟩ rfl (wo_run rfl rfl (run_load1 rfl rfl Try.underlying3 rfl (hsb18.cell S3.m rfl)) ?_)
    refine wl_opG (k := 10) (k' := 11) rfl rfl ⟨_, _, _, rfl, rfl, rfl, rfl⟩ rfl (wo_run rfl rfl (run_gtr rfl rfl rfl) ?_)
    refine wl_op (k := 11) (k' := 12) rfl rfl rfl (wo_run rfl rfl (run_pickF rfl rfl rfl) ?_)
    refine wl_op (k := 12) (k' := 13) rfl rfl rfl (wo_run rfl rfl (run_assign rfl rfl) ?_)
    refine wl_end rfl ?_
    refine nm_sub [(4, _), (25, _)] ⟨rfl, rfl, trivial⟩ ?_
    refine nm_thn ?_
    refine ws_condN SOpF_n16 SOpF_n17 rfl rfl rfl rfl (fun hb25 => ?_) (fun hb25 => ?_)
    ·replace hb25 := of_decide_eq_true hb25
     refine ws_seqN SOpF_n18 SOpF_n19 rfl rfl rfl ?_
     refine ws_region rfl ?_
     refine wl_op (k := 0) (k' := 1) rfl rfl rfl (wo_run rfl rfl (run_assign rfl rfl) ?_)
     refine wl_op (k := 1) (k' := 2) rfl rfl rfl (wo_run rfl rfl (run_assign rfl rfl) ?_)
     refine wl_end rfl ?_
     refine nm_sub [(2, _), (3, _)] ⟨rfl, rfl, trivial⟩ ?_
     refine nm_thn ?_
     refine ws_ret hC [_, _] rfl rfl ⟨rfl, rfl, trivial⟩ ?_
     refine ⟨_, rfl, _, hle1.trans hle2, S3.pick [] [] (by decide) trivial, ?_⟩
     have e0 : errG d = 6 := by unfold errG; rw [if_pos hopn18, if_neg (by rw [oneB_iff]; omega)]
     exact .inl ⟨by rw [e0]; first | decide | exact hopn18, by rw [e0]; rfl⟩
    ·replace hb25 := of_decide_eq_false hb25
     have hS : OkS d := ⟨hab, by omega, hpl⟩
     have hg0 : errG d = 0 := by unfold errG; rw [if_pos hopn18, if_pos (by rw [oneB_iff]; omega)]
     refine ws_skip rfl ?_
     refine nm_blk ?_
     refine nm_sub [(4, _)] ⟨rfl, trivial⟩ ?_
     refine nm_thn ?_
     refine ws_seqN SOpF_n20 SOpF_n21 rfl rfl rfl ?_
     refine ws_region rfl ?_
     refine wl_op (k := 0) (k' := 1) rfl rfl rfl (wo_run rfl rfl (run_move rfl rfl) ?_)
     refine wl_op (k := 1) (k' := 2) rfl rfl rfl (wo_makeMap Da Int (fun x => Value.agg (cdDa.f x).toArray) (Value.int .i64) rfl rfl rfl S3 ?_)
     intro gm1 w4 S4; clear S3
     refine wl_op (k := 2) (k' := 3) rfl rfl rfl (wo_run rfl rfl (run_build (l := [_, _, _]) rfl rfl st46 rfl rfl) ?_)
     refine wl_op (k := 3) (k' := 4) rfl rfl rfl (wo_box (l := [_, _, _]) rfl rfl rfl rfl rfl S4 ?_)
     intro gb2 w5 S5; clear S4
     refine wl_op (k := 4) (k' := 5) rfl rfl rfl (wo_alloc (l := [_]) rfl rfl rfl zr40 rfl S5 ?_)
     intro gb3 w6 S6; clear S5
     refine wl_op (k := 5) (k' := 6) rfl rfl rfl (wo_storeB (i := 0) (us := [_]) (l' := [_]) (H' := [_, _, _, _]) rfl rfl S6 rfl rfl rfl rfl sz40 rfl rfl rfl rfl ?_)
     intro w7 S7; clear S6
     refine wl_end rfl ?_
     refine nm_sub [(4, _), (6, _)] ⟨rfl, rfl, trivial⟩ ?_
     refine nm_thn ?_
     refine ws_seqN SOpF_n22 SOpF_n23 rfl rfl rfl ?_
     refine ws_region rfl ?_
     refine wl_op (k := 0) (k' := 1) rfl rfl rfl (wo_run rfl rfl (run_move rfl rfl) ?_)
     refine wl_op (k := 1) (k' := 2) rfl rfl rfl (wo_ct rfl rfl rfl rfl rfl rfl rfl cf20 S7 (InF.Faces_t d hsb18 hsc18 hsi18 hso18 hn hab S7.lend) ?_)
     intro vw8 w8 M3 hle3 S8 hRw8; clear S7
     replace hdcrs := hdcrs.mono (Hp.un_mono hle3 S8.mx)
     replace hsb18 := hsb18.mono hle3
     replace hsc18 := hsc18.mono hle3
     replace hsi18 := hsi18.mono hle3
     replace hso18 := hso18.mono hle3
     replace hr1 := hr1.mono hle3
     replace hd1 := hd1.mono hle3
     obtain ⟨A2, c2, vs2, rfl, hr2, hd2⟩ := hRw8
     have hlenfacesL := hd2.1
     refine wl_op (k := 2) (k' := 3) rfl rfl rfl (wo_run rfl rfl (run_assign rfl rfl) ?_)
     refine wl_end rfl ?_
     refine nm_sub [(4, _), (6, _), (7, _)] ⟨rfl, rfl, rfl, trivial⟩ ?_
     refine nm_thn ?_
     refine ws_seqN SOpF_n24 SOpF_n25 rfl rfl rfl ?_
     refine ws_seqN SOpF_n26 SOpF_n27 rfl rfl rfl ?_
     refine ws_region rfl ?_
     refine wl_op (k := 0) (k' := 1) rfl rfl rfl (wo_run rfl rfl (run_move rfl rfl) ?_)
     refine wl_op (k := 1) (k' := 2) rfl rfl rfl (wo_run rfl rfl (run_len rfl rfl rfl rfl rfl rfl Try.underlying49) ?_)
     refine wl_op (k := 2) (k' := 3) rfl rfl rfl (wo_run rfl rfl (run_move rfl rfl) ?_)
     refine wl_end rfl ?_
     refine nm_sub [(4, _), (6, _), (44, _), (45, _), (46, _)] ⟨rfl, rfl, rfl, rfl, rfl, trivial⟩ ?_
     refine nm_thn ?_
     refine ws_blockN SOpF_n28 1 rfl rfl rfl ?_
     have S9 := S8.nilrow cdInt; clear S8
     refine ws_loopE (fun mx_ ax_ wx_ => ∃ (i : Nat) (es : List (Da × Int)) (sh : List Int) (vri : Value), mx_ = (facesL d).length - i ∧ Env 134 [(4, .pointer (some ⟨g1, 0, none⟩)), (6, .pointer (some ⟨gb3, 0, none⟩)), (44, .slice A2 vs2.length c2), (45, .int .i64 (vs2.length : Int)), (46, .int .i64 (i : Int))] ax_ ∧ SH wx_ M3 X [Rs.row cdInt vri sh, Rs.box gb3 40 [.pointer (some ⟨gb2, 0, none⟩)], Rs.box gb2 46 [.pointer (some ⟨g1, 0, none⟩), .map (some gm1), vri], Rs.mp (fun x => Value.agg (cdDa.f x).toArray) (Value.int .i64) gm1 es] ∧ i ≤ (facesL d).length ∧ es = fmapN (facesL d) i ∧ sh = List.replicate i (-1)) rfl ?_ ?_
     ·intro ax_ hax_
      refine ⟨_, ⟨0, [], [], _, rfl, hax_.sub ⟨rfl, rfl, rfl, rfl, rfl, trivial⟩, S9.pick [0, 1, 2, 3] [_, _, _, _] (by decide) ⟨rfl, rfl, rfl, rfl, trivial⟩, ?hq1f0, ?hq1f1, ?hq1f2⟩⟩
      case hq1f0 => omega
      case hq1f1 => rfl
      case hq1f2 => rfl
     ·rintro m2 a1 w9 ⟨i, es, sh, vri, rfl, he1, S10, hi, hes, hsh⟩
      clear S9
      refine ws_in he1 (c := SOpF_n29) rfl ?_
      clear he1 a1
      have hsl : sh.length = i := by rw [hsh, List.length_replicate]
      have hfm := facesL_many d
      refine ws_seqN SOpF_n30 SOpF_n31 rfl rfl rfl ?_
      refine ws_region rfl ?_
      refine wl_op (k := 0) (k' := 1) rfl rfl rfl (wo_run rfl rfl (run_lss rfl rfl rfl) ?_)
      refine wl_end rfl ?_
      refine nm_thn ?_
      refine ws_seqN SOpF_n32 SOpF_n33 rfl rfl rfl ?_
      refine ws_condN SOpF_n34 SOpF_n35 rfl rfl rfl rfl (fun hb47 => ?_) (fun hb47 => ?_)
      ·replace hb47 := of_decide_eq_true hb47
       refine ws_skip rfl ?_
       refine nm_sub [(4, _), (6, _), (44, _), (45, _), (46, _)] ⟨rfl, rfl, rfl, rfl, rfl, trivial⟩ ?_
       refine nm_thn ?_
       refine ws_seqN SOpF_n36 SOpF_n37 rfl rfl rfl ?_
       refine ws_blockN SOpF_n38 2 rfl rfl rfl ?_
       refine ws_seqN SOpF_n39 SOpF_n40 rfl rfl rfl ?_
       refine ws_region rfl ?_
       refine wl_op (k := 0) (k' := 1) rfl rfl rfl (wo_run rfl rfl (run_move rfl rfl) ?_)
       refine wl_op (k := 1) (k' := 2) rfl rfl rfl (wo_run rfl rfl (run_indexM (C := (cdV 63)) i rfl rfl rfl sl49 (by first | rfl | omega) hr2 (by first | omega | (simp only [lens]; omega))) ?_)
       obtain ⟨hn1, hr3⟩ := hd2.2 i (by first | omega | (simp only [lens]; omega))
       have rmhr3 : (ga (facesL d) i).length * 16 ≤ 140737488355328 := hr3.room
       refine wl_op (k := 2) (k' := 3) rfl rfl rfl (wo_run rfl rfl (run_load1 rfl rfl Try.underlying63 rfl (hr2.cell S10.m (i := i) (by first | omega | (simp only [lens]; omega)) 0 rfl (congrArg (fun n => some (Value.slice _ n _)) hn1))) ?_)
       refine wl_op (k := 3) (k' := 4) rfl rfl rfl (wo_run rfl rfl (run_assign rfl rfl) ?_)
       refine wl_op (k := 4) (k' := 5) rfl rfl rfl (wo_run rfl rfl (run_assign rfl rfl) ?_)
       refine wl_end rfl ?_
       refine nm_sub [(4, _), (6, _), (44, _), (45, _), (46, _), (8, _), (9, _)] ⟨rfl, rfl, rfl, rfl, rfl, rfl, rfl, trivial⟩ ?_
       refine nm_thn ?_
       refine ws_seqN SOpF_n41 SOpF_n42 rfl rfl rfl ?_
       have S11 := S10.pick [0, 1, 2, 3] [_, _, _, _] (by decide) ⟨rfl, rfl, rfl, rfl, trivial⟩; clear S10
       refine ws_drawN [_] [_, _, _] rfl (by kernel_rfl) S11 10 rfl ?_
       clear S11
       change WA _ _ _ _ _ _ _ _ _ _ _ _ [_, _, _, _]
       refine wa_take (i := 0) (d := 51) 9 rfl (by kernel_rfl) (by kernel_rfl) (by kernel_rfl) rfl rfl rfl (fun M4 N1 w10 hle5 S12 => .inl (run_load1 rfl rfl Try.underlying40 rfl (S12.suf.boxc (i := 0) rfl rfl))) ?_
       refine wa_take (i := 1) (d := 52) 8 rfl (by kernel_rfl) (by kernel_rfl) (by kernel_rfl) rfl rfl rfl (fun M5 N2 w11 hle6 S13 => .inl (run_load1 rfl rfl Try.underlying40 rfl (S13.suf.boxc (i := 0) rfl rfl))) ?_
       refine wa_takeP (i := 2) (d := 53) 7 rfl (by kernel_rfl) (by kernel_rfl) (by kernel_rfl) rfl rfl rfl (fun w12 => run_nilCheck rfl rfl) ?_
       refine wa_takeP (i := 3) (d := 54) 6 rfl (by kernel_rfl) (by kernel_rfl) (by kernel_rfl) rfl rfl rfl (fun w13 => run_fieldAddr rfl rfl Try.underlying46 rfl (ce25) (nf25)) ?_
       refine wa_take (i := 4) (d := 55) 5 rfl (by kernel_rfl) (by kernel_rfl) (by kernel_rfl) rfl rfl rfl (fun M8 N5 w14 hle9 S16 => .inl (run_load1 rfl rfl Try.underlying25 rfl (S16.suf.boxc (i := 1) rfl rfl))) ?_
       refine wa_only (i := 5) 4 rfl (by kernel_rfl) rfl rfl (fun w16 S18 => ?_)
       refine (wo_buildSlice1 (C := cdInt) (l := [_]) rfl rfl rfl rfl sl25 rfl rfl rfl rfl S18 ?_)
       intro gb4 w17 S19; clear S18
       refine LeftW.grow [_, _] (Hp.le_refl _) S19 ?_; clear S19
       change WA _ _ _ _ _ _ _ _ _ _ _ _ [_, _, _, _, _]
       refine wa_only (i := 6) 3 rfl (by kernel_rfl) rfl rfl (fun w19 S21 => ?_)
       refine (wo_append1 (C := cdInt) (i := 1) (q := 0) (-1) rfl rfl rfl rfl rfl rfl rfl rfl sl25 S21 rfl rfl rfl (by show (_ + 1) * 8 ≤ _; first | omega | (simp only [lens]; omega)) ?_)
       intro vri1 w20 S22; clear S21
       have S23 := S22.pick [1, 2, 3, 4] [_, _, _, _] (by decide) ⟨rfl, rfl, rfl, rfl, trivial⟩; clear S22
       refine LeftW.grow [_] (Hp.le_refl _) S23 ?_; clear S23
       change WA _ _ _ _ _ _ _ _ _ _ _ _ [_, _, _, _]
       refine wa_takeP (i := 7) (d := 58) 2 rfl (by kernel_rfl) (by kernel_rfl) (by kernel_rfl) rfl rfl rfl (fun w21 => run_nilCheck rfl rfl) ?_
       refine wa_takeP (i := 8) (d := 59) 1 rfl (by kernel_rfl) (by kernel_rfl) (by kernel_rfl) rfl rfl rfl (fun w22 => run_fieldAddr rfl rfl Try.underlying46 rfl (ce25) (nf25)) ?_
       refine wa_only (i := 9) 0 rfl (by kernel_rfl) rfl rfl (fun w24 S27 => ?_)
       refine (wo_storeB (i := 2) (us := [_]) (l' := [_, _, _]) (H' := [_, _, _, _]) rfl rfl S27 rfl rfl rfl (S27.cells1 (i := 0) rfl) sz25 rfl (ones_cons (S27.one (i := 0) rfl) rfl) rfl rfl ?_)
       intro w25 S28; clear S27
       refine LeftW.turn (by kernel_rfl) S28 ?_; clear S28
       change WA _ _ _ _ _ _ _ _ _ _ _ _ [_, _, _, _]
       refine wa_end (by kernel_rfl) (fun w26 S29 => ?_)
       refine nm_sub [(4, _), (6, _), (44, _), (45, _), (46, _), (8, _), (9, _)] ⟨rfl, rfl, rfl, rfl, rfl, rfl, rfl, trivial⟩ ?_
       refine nm_thn ?_
       refine ws_seqN SOpF_n43 SOpF_n44 rfl rfl rfl ?_
       refine ws_region rfl ?_
       refine wl_op (k := 0) (k' := 1) rfl rfl rfl (wo_run rfl rfl (run_move rfl rfl) ?_)
       refine wl_op (k := 1) (k' := 2) rfl rfl rfl (wo_run rfl rfl (run_len rfl rfl rfl rfl rfl rfl Try.underlying63) ?_)
       refine wl_op (k := 2) (k' := 3) rfl rfl rfl (wo_run rfl rfl (run_move rfl rfl) ?_)
       refine wl_end rfl ?_
       refine nm_sub [(4, _), (6, _), (44, _), (45, _), (46, _), (8, _), (60, _), (61, _), (62, _)] ⟨rfl, rfl, rfl, rfl, rfl, rfl, rfl, rfl, rfl, trivial⟩ ?_
       refine nm_thn ?_
       refine ws_blockN SOpF_n45 3 rfl rfl rfl ?_
       refine ws_loopE (fun mx_ ax_ wx_ => ∃ (k : Nat) (es2 : List (Da × Int)), mx_ = (ga (facesL d) i).length - k ∧ Env 134 [(4, .pointer (some ⟨g1, 0, none⟩)), (6, .pointer (some ⟨gb3, 0, none⟩)), (44, .slice A2 vs2.length c2), (45, .int .i64 (vs2.length : Int)), (46, .int .i64 (i : Int)), (8, .int .i64 (i : Int)), (60, .slice ((ga vs2 i).A) (ga (facesL d) i).length ((ga vs2 i).c)), (61, .int .i64 ((ga (facesL d) i).length : Int)), (62, .int .i64 (k : Int))] ax_ ∧ SH wx_ M3 X [Rs.row cdInt vri1 (sh ++ [(-1)]), Rs.box gb3 40 [.pointer (some ⟨gb2, 0, none⟩)], Rs.box gb2 46 [.pointer (some ⟨g1, 0, none⟩), .map (some gm1), vri1], Rs.mp (fun x => Value.agg (cdDa.f x).toArray) (Value.int .i64) gm1 es2] ∧ k ≤ (ga (facesL d) i).length ∧ es2 = putD i (ga (facesL d) i) es k) rfl ?_ ?_
       ·intro ax_ hax_
        refine ⟨_, ⟨0, es, rfl, hax_.sub ⟨rfl, rfl, rfl, rfl, rfl, rfl, rfl, rfl, rfl, trivial⟩, S29.pick [0, 1, 2, 3] [_, _, _, _] (by decide) ⟨rfl, rfl, rfl, rfl, trivial⟩, ?hq2f0, ?hq2f1⟩⟩
        case hq2f0 => omega
        case hq2f1 => rfl
       ·rintro m3 a2 w27 ⟨k, es2, rfl, he2, S30, hk, hes2⟩
        clear S29
        refine ws_in he2 (c := SOpF_n46) rfl ?_
        clear he2 a2
        refine ws_seqN SOpF_n47 SOpF_n48 rfl rfl rfl ?_
        refine ws_region rfl ?_
        refine wl_op (k := 0) (k' := 1) rfl rfl rfl (wo_run rfl rfl (run_lss rfl rfl rfl) ?_)
        refine wl_end rfl ?_
        refine nm_thn ?_
        refine ws_seqN SOpF_n49 SOpF_n50 rfl rfl rfl ?_
        refine ws_condN SOpF_n51 SOpF_n52 rfl rfl rfl rfl (fun hb63 => ?_) (fun hb63 => ?_)
        ·replace hb63 := of_decide_eq_true hb63
         refine ws_skip rfl ?_
         refine nm_sub [(4, _), (6, _), (44, _), (45, _), (46, _), (8, _), (60, _), (61, _), (62, _)] ⟨rfl, rfl, rfl, rfl, rfl, rfl, rfl, rfl, rfl, trivial⟩ ?_
         refine nm_thn ?_
         refine ws_seqN SOpF_n53 SOpF_n54 rfl rfl rfl ?_
         refine ws_blockN SOpF_n55 4 rfl rfl rfl ?_
         refine ws_seqN SOpF_n56 SOpF_n57 rfl rfl rfl ?_
         refine ws_region rfl ?_
         refine wl_op (k := 0) (k' := 1) rfl rfl rfl (wo_run rfl rfl (run_indexM (C := cdDa) k rfl rfl rfl sl63 (by first | rfl | omega) hr3 (by first | omega | (simp only [lens]; omega))) ?_)
         refine wl_op (k := 1) (k' := 2) rfl rfl rfl (wo_run rfl rfl (run_loadN (us := [_, _]) rfl rfl Try.underlying65 rfl sz65 (hr3.cellsAt S30.m (e := k) (by first | omega | (simp only [lens]; omega)) (j := 0) ⟨rfl, rfl, trivial⟩)) ?_)
         refine wl_op (k := 2) (k' := 3) rfl rfl rfl (wo_alloc (l := [_, _]) rfl rfl rfl zr65 rfl S30 ?_)
         intro gb5 w28 S31; clear S30
         refine wl_op (k := 3) (k' := 4) rfl rfl rfl (wo_storeB (i := 0) (us := [_, _]) (l' := [_, _]) (H' := [_, _, _, _, _]) rfl rfl S31 rfl rfl rfl rfl sz65 rfl rfl rfl rfl ?_)
         intro w29 S32; clear S31
         refine wl_end rfl ?_
         refine nm_sub [(4, _), (6, _), (44, _), (45, _), (46, _), (8, _), (60, _), (61, _), (62, _), (11, _)] ⟨rfl, rfl, rfl, rfl, rfl, rfl, rfl, rfl, rfl, rfl, trivial⟩ ?_
         refine nm_thn ?_
         refine ws_draw rfl (by kernel_rfl) S32 7 rfl ?_
         clear S32
         refine wa_take (i := 0) (d := 66) 6 rfl (by kernel_rfl) (by kernel_rfl) (by kernel_rfl) rfl rfl rfl (fun M14 N11 w30 hle16 S33 => .inl (run_load1 rfl rfl Try.underlying40 rfl (S33.suf.boxc (i := 2) rfl rfl))) ?_
         refine wa_takeP (i := 1) (d := 67) 5 rfl (by kernel_rfl) (by kernel_rfl) (by kernel_rfl) rfl rfl rfl (fun w31 => run_nilCheck rfl rfl) ?_
         refine wa_takeP (i := 2) (d := 68) 4 rfl (by kernel_rfl) (by kernel_rfl) (by kernel_rfl) rfl rfl rfl (fun w32 => run_fieldAddr rfl rfl Try.underlying46 rfl (ce44) (nf44)) ?_
         refine wa_take (i := 3) (d := 69) 3 rfl (by kernel_rfl) (by kernel_rfl) (by kernel_rfl) rfl rfl rfl (fun M17 N14 w33 hle19 S36 => .inl (run_load1 rfl rfl Try.underlying44 rfl (S36.suf.boxc (i := 3) rfl rfl))) ?_
         refine wa_take (i := 4) (d := 70) 2 rfl (by kernel_rfl) (by kernel_rfl) (by kernel_rfl) rfl rfl rfl (fun M18 N15 w34 hle20 S37 => .inl (run_loadN (us := [_, _]) rfl rfl Try.underlying65 rfl sz65 (S37.suf.boxcs (i := 0) rfl ⟨rfl, rfl, trivial⟩))) ?_
         refine wa_takeP (i := 5) (d := 71) 1 rfl (by kernel_rfl) (by kernel_rfl) (by kernel_rfl) rfl rfl rfl (fun w35 => run_move rfl rfl) ?_
         refine wa_only (i := 6) 0 rfl (by kernel_rfl) rfl rfl (fun w37 S40 => ?_)
         refine (wo_mapUpdate (kc := (fun x => Value.agg (cdDa.f x).toArray)) (vc := Value.int .i64) (es := es2) (k := (ga (ga (facesL d) i) k)) (e := (i : Int)) (i := 4) (H' := [_, _, _, _, _]) (.inl rfl) rfl S40 rfl rfl rfl rfl Try.underlying44 mk65 rfl ?_)
         intro w38 S41; clear S40
         refine LeftW.turn (by kernel_rfl) S41 ?_; clear S41
         change WA _ _ _ _ _ _ _ _ _ _ _ _ [_, _, _, _, _]
         refine wa_end (by kernel_rfl) (fun w39 S42 => ?_)
         refine nm_blk ?_
         refine nm_sub [(4, _), (6, _), (44, _), (45, _), (46, _), (8, _), (60, _), (61, _), (62, _)] ⟨rfl, rfl, rfl, rfl, rfl, rfl, rfl, rfl, rfl, trivial⟩ ?_
         refine nm_thn ?_
         refine ws_region rfl ?_
         refine wl_op (k := 0) (k' := 1) rfl rfl rfl (wo_run rfl rfl (run_add rfl rfl rfl (by first | omega | (simp only [lens]; omega))) ?_)
         refine wl_op (k := 1) (k' := 2) rfl rfl rfl (wo_run rfl rfl (run_move rfl rfl) ?_)
         refine wl_end rfl ?_
         refine nm_lp ?_
         intro ax_ hax_
         refine ⟨_, ?hq3m, ⟨k + 1, _, rfl, hax_.sub ⟨rfl, rfl, rfl, rfl, rfl, rfl, rfl, rfl, rfl, trivial⟩, S42.pick [1, 2, 3, 4] [_, _, _, _] (by decide) ⟨rfl, rfl, rfl, rfl, trivial⟩, ?hq3f0, ?hq3f1⟩⟩
         case hq3f0 => omega
         case hq3f1 => (rw [hes2]; rfl)
         case hq3m => omega
        ·replace hb63 := of_decide_eq_false hb63
         refine ws_exit rfl rfl ?_
         refine nm_blk ?_
         refine nm_sub [(4, _), (6, _), (44, _), (45, _), (46, _)] ⟨rfl, rfl, rfl, rfl, rfl, trivial⟩ ?_
         refine nm_thn ?_
         refine ws_region rfl ?_
         refine wl_op (k := 0) (k' := 1) rfl rfl rfl (wo_run rfl rfl (run_add rfl rfl rfl (by first | omega | (simp only [lens]; omega))) ?_)
         refine wl_op (k := 1) (k' := 2) rfl rfl rfl (wo_run rfl rfl (run_move rfl rfl) ?_)
         refine wl_end rfl ?_
         refine nm_lp ?_
         intro ax_ hax_
         refine ⟨_, ?hq4m, ⟨i + 1, _, _, _, rfl, hax_.sub ⟨rfl, rfl, rfl, rfl, rfl, trivial⟩, S30.pick [0, 1, 2, 3] [_, _, _, _] (by decide) ⟨rfl, rfl, rfl, rfl, trivial⟩, ?hq4f0, ?hq4f1, ?hq4f2⟩⟩
         case hq4f0 => omega
         case hq4f1 => (obtain rfl : k = (ga (facesL d) i).length := (by omega); rw [hes2, hes]; rfl)
         case hq4f2 => (rw [hsh, List.replicate_succ'])
         case hq4m => omega
      ·replace hb47 := of_decide_eq_false hb47
       refine ws_exit rfl rfl ?_
       refine nm_sub [(4, _), (6, _)] ⟨rfl, rfl, trivial⟩ ?_
       refine nm_thn ?_
       refine ws_seqN SOpF_n58 SOpF_n59 rfl rfl rfl ?_
       have hmc1 : es = (fmap d) := by (obtain rfl : i = (facesL d).length := (by omega); exact hes)
       rw [hmc1] at S10; clear hmc1
       have hfn := hS.fn
       have hfl : i = (fcsC d).length := by (have := congrArg List.length (facesL_C d); rw [List.length_map] at this; omega)
       have hini : sh.set 0 0 = iniS d := by rw [hsh, hfl]; rfl
       have hsl2 : sh.length = (fcsC d).length := by rw [hsh, List.length_replicate]; exact hfl
       refine ws_region rfl ?_
       refine wl_op (k := 0) (k' := 1) rfl rfl rfl (wo_run rfl rfl (run_load1 rfl rfl Try.underlying40 rfl (S10.boxc (i := 1) rfl rfl)) ?_)
       refine wl_op (k := 1) (k' := 2) rfl rfl rfl (wo_run rfl rfl (run_nilCheck rfl rfl) ?_)
       refine wl_op (k := 2) (k' := 3) rfl rfl rfl (wo_run rfl rfl (run_fieldAddr rfl rfl Try.underlying46 rfl (ce25) (nf25)) ?_)
       refine wl_op (k := 3) (k' := 4) rfl rfl rfl (wo_run rfl rfl (run_load1 rfl rfl Try.underlying25 rfl (S10.boxc (i := 2) rfl rfl)) ?_)
       refine wl_op (k := 4) (k' := 5) rfl rfl rfl (wo_run rfl rfl (run_indexR (C := cdInt) (i := 0) 0 rfl rfl rfl sl25 S10 rfl (by first | rfl | omega) (by first | omega | (simp only [lens]; omega))) ?_)
       refine wl_op (k := 5) (k' := 6) rfl rfl rfl (wo_storeR (C := cdInt) (i := 0) (e := 0) (j := 0) (us := [_]) (H' := [_, _, _, _]) 0 rfl rfl S10 rfl (by first | omega | (simp only [lens]; omega)) rfl rfl rfl sz3 rfl rfl rfl rfl ?_)
       intro w40 S43; clear S10
       refine wl_end rfl ?_
       refine nm_sub [(4, _), (6, _)] ⟨rfl, rfl, trivial⟩ ?_
       refine nm_thn ?_
       have S9 := (mks_nil S43).pick [0, 4, 1, 3, 2] [_, _, _, _, _] (by decide) ⟨rfl, rfl, rfl, rfl, rfl, trivial⟩
       refine InF.ws_sub [(4, _), (6, _)] ⟨rfl, rfl, trivial⟩ ?_
       refine InD.ws_of0 ?_
       exact InD.SOp_tail d hsb18 hsc18 hsi18 hso18 hn hS (by rw [hini]; exact (iniS_ok hS).1) hCr hC (fun u N w9 hle9 S9 h9 => ⟨u, rfl, N, ((hle1.trans hle2).trans hle3).trans hle9, S9, .inr ⟨hg0, h9⟩⟩) S9
end InF.G
end Go.Proofs.Ythppkofceancjaa
