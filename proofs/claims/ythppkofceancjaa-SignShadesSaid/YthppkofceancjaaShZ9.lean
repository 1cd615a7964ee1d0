/- Part 9 of the proof of the law SignShades: the walks through its functions and the plain laws that they need. -/
import Derived.Test.YthppkofceancjaaShZ8
set_option linter.unusedSimpArgs false
set_option linter.unusedVariables false
namespace Go.Proofs.Ythppkofceancjaa
open Go.ChangeShapes Go.WideShapes Go.ChangeAt Go.RowKit
theorem ahead_eq {d : Dg} (h : OkS d) {c k q : Nat} (hc : c < d.crs.length) (hk : k < 4) (hq : q = (k + 3) % 4) : (mg (⟨crArc (ga d.crs c) k, !(crIn (ga d.crs c) k)⟩ : Da) (fmap d)).getD 0 = (fcJ d (4 * c + q) : Int) := by
 have hb := arcAt_bd h.ab hc hk
 have ho : okD d (⟨crArc (ga d.crs c) k, !(crIn (ga d.crs c) k)⟩ : Da) := hb
 rw [fmap_mg h.ab ho]
 show ((fcI d (dcN ⟨arcAt d c k, !entryB d c k⟩) : Nat) : Int) = _
 rw [rev_dcN _ _ hb.1]
 have e : (⟨crArc (ga d.crs c) k, crIn (ga d.crs c) k⟩ : Da) = outD d (4 * c + k) := by
  unfold outD arcJ
  rw [show (4 * c + k) / 4 = c by omega, show (4 * c + k) % 4 = k by omega]
  rfl
 show ((fcI d (revC (dcN ⟨crArc (ga d.crs c) k, crIn (ga d.crs c) k⟩)) : Nat) : Int) = _
 rw [e, out_rev h (by omega), show prJ (4 * c + k) = 4 * c + q by unfold prJ; omega]
noncomputable def shR (d : Dg) : List Int := if errG d = 0 then shL d else []
def errZ (d : Dg) (s : Int) : Int := if s = 0 ∨ s = 1 then errG d else 3
noncomputable def gzR (d : Dg) (s : Int) : List (List Int) := if errZ d s = 0 then gzL d s else []
noncomputable def fxR (d : Dg) (s : Int) : Int := if errZ d s = 0 then gX d s d.crs.length else 0
theorem errG_ok {d : Dg} (h : errG d = 0) : errO d = 0 ∧ oneB d = true ∧ OkS d ∧ d.crs.length ≤ 16 := by
 unfold errG at h
 split at h
 ·rename_i h0
  split at h
  ·rename_i h1
   exact ⟨h0, h1, okS_of h0 h1, (mayO (errO_ok h0).1).1⟩
  ·cases h
 ·rename_i h0; exact absurd h h0
noncomputable def ahead_n0 : Code := Try.f22.body.getD .skip
noncomputable def ahead_n1 : Code := cL ahead_n0
noncomputable def ahead_n2 : Code := cR ahead_n0
noncomputable def ahead_n3 : Code := cL ahead_n2
noncomputable def ahead_n4 : Code := cR ahead_n2
noncomputable def ahead_n5 : Code := cL ahead_n4
noncomputable def ahead_n6 : Code := cR ahead_n4
set_option maxRecDepth 10000 in
theorem ahead_q {w : World} {M : Hp} {X : Fr} (d : Dg) {gch gsh gqm : Nat} {cA iA oA sA : Option Addr} {cc ic oc sc : Nat} (c : Nat) (k : Nat) (hcb : BxM (M.un X.h) gch 46 [.pointer (some ⟨gsh, 0, none⟩), .map (some gqm), .slice sA (shL d).length sc]) (hsb : BxM (M.un X.h) gsh 61 [.slice cA d.crs.length cc, .int .i64 d.loops, .slice iA (tabL d false (4 * d.crs.length)).length ic, .slice oA (tabL d true (4 * d.crs.length)).length oc]) (hsc : RdA cdCr (M.un X.h) cA cc d.crs) (hsi : RdA cdPl (M.un X.h) iA ic (tabL d false (4 * d.crs.length))) (hso : RdA cdPl (M.un X.h) oA oc (tabL d true (4 * d.crs.length))) (hmp : MpOk (fun x => Value.agg (cdDa.f x).toArray) (Value.int .i64) gqm (fmap d) (M.un X.h)) (hss : RdA cdInt (M.un X.h) sA sc (shL d)) {q : Nat} (hn : d.crs.length ≤ 16) (hS : OkS d) (hc : c < d.crs.length) (hk : k < 4) (hq : q = (k + 3) % 4) (S : SH w M X []) : Cq Try.prog 22 [.pointer (some ⟨gch, 0, none⟩), .int .i64 (c : Int), .int .i64 (k : Int)] w M X (fun u => u = .int .i64 (fcJ d (4 * c + q) : Int)) := by
 unfold Cq
 have hab := hS.ab
 refine calls_in (b := ahead_n0) Try.func22 rfl Try.ntmps22 rfl (fun C hC => (ws_sub [(0, _), (1, _), (2, _)] ⟨rfl, rfl, rfl, trivial⟩ (ws_seqN ahead_n1 ahead_n2 rfl rfl rfl (ws_region rfl (wla 0 1 rfl rfl rfl rfl rfl rfl rfl ?_)))))
 refine wl_end rfl (nmk [0, 1, 2] rfl (nm_thn (ws_seqN ahead_n3 ahead_n4 rfl rfl rfl (ws_region rfl ?_))))
 refine wlm 0 1 rfl rfl rfl rfl rfl rfl rfl (wlo 1 2 rfl rfl rfl (wo_run rfl rfl (run_nilCheck rfl rfl) (wlo 2 3 rfl rfl rfl (wo_run rfl rfl (run_fieldAddr rfl rfl Try.underlying46 rfl (ce43) (nf43)) (wlo 3 4 rfl rfl rfl (wo_run rfl rfl (run_load1 rfl rfl Try.underlying43 rfl (hcb.cell S.um rfl)) (wlo 4 5 rfl rfl rfl (wo_run rfl rfl (run_nilCheck rfl rfl) ?_))))))))
 refine wlo 5 6 rfl rfl rfl (wo_run rfl rfl (run_fieldAddr rfl rfl Try.underlying61 rfl (ce24) (nf24)) (wlo 6 7 rfl rfl rfl (wo_run rfl rfl (run_fieldAddr rfl rfl Try.underlying24 rfl (ce22) (nf22)) (wlo 7 8 rfl rfl rfl (wo_run rfl rfl (run_load1 rfl rfl Try.underlying22 rfl (hsb.cell S.um rfl)) (wlm 8 9 rfl rfl rfl rfl rfl rfl rfl (wlo 9 10 rfl rfl rfl (wo_run rfl rfl (run_indexM (C := cdCr) c rfl rfl rfl sl22 (by first | rfl | omega) hsc (by first | omega | (simp only [lens]; omega))) ?_))))))))
 refine wlo 10 11 rfl rfl rfl (wo_run rfl rfl (run_loadN (us := [_, _, _, _, _]) rfl rfl Try.underlying55 rfl sz55 (hsc.cellsAt S.um (e := c) (by first | omega | (simp only [lens]; omega)) (j := 0) ⟨rfl, rfl, rfl, rfl, rfl, trivial⟩)) ?_)
 refine wlo 11 12 rfl rfl rfl (wo_alloc (l := [_, _, _, _, _]) rfl rfl rfl zr55 rfl S ?_)
 intro gb1 w1 S1; clear S
 refine wlo 12 13 rfl rfl rfl (wo_storeB (i := 0) (us := [_, _, _, _, _]) (l' := [_, _, _, _, _]) (H' := [_]) rfl rfl S1 rfl rfl rfl rfl sz55 rfl rfl rfl rfl ?_)
 intro w2 S2; clear S1
 refine wl_end rfl (nmk [0, 2, 7] rfl (nm_thn (ws_seqN ahead_n5 ahead_n6 rfl rfl rfl (ws_draw rfl (by kernel_rfl) S2 14 rfl ?_))))
 clear S2
 refine wap 0 13 rfl (by kernel_rfl) rfl rfl rfl (fun w3 => run_move rfl rfl) ?_
 refine wap 1 12 rfl (by kernel_rfl) rfl rfl rfl (fun w4 => run_nilCheck rfl rfl) ?_
 refine wap 2 11 rfl (by kernel_rfl) rfl rfl rfl (fun w5 => run_fieldAddr rfl rfl Try.underlying46 rfl (ce44) (nf44)) ?_
 refine wat 3 10 rfl (by kernel_rfl) rfl rfl rfl (fun M4 N4 w6 hle4 S6 => .inl (run_load1 rfl rfl Try.underlying44 rfl ((hcb.mono (Hp.un_mono hle4 S6.mx)).cell S6.um rfl))) ?_
 refine wat 4 9 rfl (by kernel_rfl) rfl rfl rfl (fun M5 N5 w7 hle5 S7 => .inl (run_loadN (us := [_, _, _, _, _]) rfl rfl Try.underlying55 rfl sz55 (S7.suf.boxcs (i := 0) rfl ⟨rfl, rfl, rfl, rfl, rfl, trivial⟩))) ?_
 refine wap 5 8 rfl (by kernel_rfl) rfl rfl rfl (fun w8 => run_move rfl rfl) ?_
 refine wat 6 7 rfl (by kernel_rfl) rfl rfl rfl (fun M7 N7 w9 hle7 S9 => yield_cq rfl rfl rfl rfl rfl cf37 S9 (Arc_q (ga d.crs c) k (by omega) S9.lend)) ?_
 refine wat 7 6 rfl (by kernel_rfl) rfl rfl rfl (fun M8 N8 w10 hle8 S10 => .inl (run_loadN (us := [_, _, _, _, _]) rfl rfl Try.underlying55 rfl sz55 (S10.suf.boxcs (i := 0) rfl ⟨rfl, rfl, rfl, rfl, rfl, trivial⟩))) ?_
 refine wap 8 5 rfl (by kernel_rfl) rfl rfl rfl (fun w11 => run_move rfl rfl) ?_
 refine wat 9 4 rfl (by kernel_rfl) rfl rfl rfl (fun M10 N10 w12 hle10 S12 => yield_cq rfl rfl rfl rfl rfl cf38 S12 (Comes_q (ga d.crs c) k (by omega) S12.lend)) ?_
 refine wap 10 3 rfl (by kernel_rfl) rfl rfl rfl (fun w13 => run_not rfl rfl) ?_
 refine wat 11 2 rfl (by kernel_rfl) rfl rfl rfl (fun M12 N12 w14 hle12 S14 => .inl (run_build (l := [_, _]) rfl rfl st65 rfl rfl)) ?_
 refine wat 12 1 rfl (by kernel_rfl) rfl rfl rfl (fun M13 N13 w15 hle13 S15 => .inl (run_lookupM (kc := (fun x => Value.agg (cdDa.f x).toArray)) (vc := (Value.int .i64)) (es := (fmap d)) (k := (⟨crArc (ga d.crs c) k, !(crIn (ga d.crs c) k)⟩ : Da)) (zv := 0) rfl rfl rfl Try.underlying44 mk65 zr3 (hmp.mono (Hp.un_mono hle13 S15.mx)) S15.um)) ?_
 refine wap 13 0 rfl (by kernel_rfl) rfl rfl rfl (fun w16 => run_assign rfl rfl) ?_
 refine wa_end (by kernel_rfl) (fun w17 S17 => ?_)
 refine nmk [6] rfl (nm_thn (ws_ret hC [_] rfl rfl ⟨rfl, trivial⟩ ?_))
 exact ⟨_, rfl, (S17.pick [] [] (by decide) trivial), (by show Value.int _ _ = _; refine congrArg (Value.int .i64) ?_; exact ahead_eq hS hc hk hq)⟩
noncomputable def goeritz_n0 : Code := Try.f13.body.getD .skip
noncomputable def goeritz_n1 : Code := cL goeritz_n0
noncomputable def goeritz_n2 : Code := cR goeritz_n0
noncomputable def goeritz_n3 : Code := cL goeritz_n2
noncomputable def goeritz_n4 : Code := cR goeritz_n2
noncomputable def goeritz_n5 : Code := cL goeritz_n4
noncomputable def goeritz_n6 : Code := cR goeritz_n4
noncomputable def goeritz_n7 : Code := cL goeritz_n6
noncomputable def goeritz_n8 : Code := cR goeritz_n6
noncomputable def goeritz_n9 : Code := cL goeritz_n7
noncomputable def goeritz_n10 : Code := cR goeritz_n7
noncomputable def goeritz_n11 : Code := cL goeritz_n10
noncomputable def goeritz_n12 : Code := cL goeritz_n11
noncomputable def goeritz_n13 : Code := cL goeritz_n12
noncomputable def goeritz_n14 : Code := cR goeritz_n12
noncomputable def goeritz_n15 : Code := cL goeritz_n14
noncomputable def goeritz_n16 : Code := cR goeritz_n14
noncomputable def goeritz_n17 : Code := cL goeritz_n15
noncomputable def goeritz_n18 : Code := cR goeritz_n15
noncomputable def goeritz_n19 : Code := cL goeritz_n16
noncomputable def goeritz_n20 : Code := cR goeritz_n16
noncomputable def goeritz_n21 : Code := cL goeritz_n19
noncomputable def goeritz_n22 : Code := cL goeritz_n21
noncomputable def goeritz_n23 : Code := cR goeritz_n21
noncomputable def goeritz_n24 : Code := cL goeritz_n23
noncomputable def goeritz_n25 : Code := cR goeritz_n23
noncomputable def goeritz_n26 : Code := cL goeritz_n25
noncomputable def goeritz_n27 : Code := cR goeritz_n25
noncomputable def goeritz_n28 : Code := cL goeritz_n26
noncomputable def goeritz_n29 : Code := cR goeritz_n26
noncomputable def goeritz_n30 : Code := cL goeritz_n8
noncomputable def goeritz_n31 : Code := cR goeritz_n8
noncomputable def goeritz_n32 : Code := cL goeritz_n31
noncomputable def goeritz_n33 : Code := cR goeritz_n31
noncomputable def goeritz_n34 : Code := cL goeritz_n32
noncomputable def goeritz_n35 : Code := cR goeritz_n32
noncomputable def goeritz_n36 : Code := cL goeritz_n35
noncomputable def goeritz_n37 : Code := cL goeritz_n36
noncomputable def goeritz_n38 : Code := cL goeritz_n37
noncomputable def goeritz_n39 : Code := cR goeritz_n37
noncomputable def goeritz_n40 : Code := cL goeritz_n39
noncomputable def goeritz_n41 : Code := cR goeritz_n39
noncomputable def goeritz_n42 : Code := cL goeritz_n40
noncomputable def goeritz_n43 : Code := cR goeritz_n40
noncomputable def goeritz_n44 : Code := cL goeritz_n41
noncomputable def goeritz_n45 : Code := cR goeritz_n41
noncomputable def goeritz_n46 : Code := cL goeritz_n44
noncomputable def goeritz_n47 : Code := cL goeritz_n46
noncomputable def goeritz_n48 : Code := cR goeritz_n46
noncomputable def goeritz_n49 : Code := cL goeritz_n33
noncomputable def goeritz_n50 : Code := cR goeritz_n33
noncomputable def goeritz_n51 : Code := cL goeritz_n50
noncomputable def goeritz_n52 : Code := cR goeritz_n50
noncomputable def goeritz_n53 : Code := cL goeritz_n51
noncomputable def goeritz_n54 : Code := cR goeritz_n51
noncomputable def goeritz_n55 : Code := cL goeritz_n54
noncomputable def goeritz_n56 : Code := cL goeritz_n55
noncomputable def goeritz_n57 : Code := cL goeritz_n56
noncomputable def goeritz_n58 : Code := cR goeritz_n56
noncomputable def goeritz_n59 : Code := cL goeritz_n58
noncomputable def goeritz_n60 : Code := cR goeritz_n58
noncomputable def goeritz_n61 : Code := cL goeritz_n59
noncomputable def goeritz_n62 : Code := cR goeritz_n59
noncomputable def goeritz_n63 : Code := cL goeritz_n60
noncomputable def goeritz_n64 : Code := cR goeritz_n60
noncomputable def goeritz_n65 : Code := cL goeritz_n63
noncomputable def goeritz_n66 : Code := cL goeritz_n65
noncomputable def goeritz_n67 : Code := cR goeritz_n65
noncomputable def goeritz_n68 : Code := cL goeritz_n67
noncomputable def goeritz_n69 : Code := cR goeritz_n67
noncomputable def goeritz_n70 : Code := cL goeritz_n69
noncomputable def goeritz_n71 : Code := cR goeritz_n69
noncomputable def goeritz_n72 : Code := cL goeritz_n70
noncomputable def goeritz_n73 : Code := cR goeritz_n70
noncomputable def goeritz_n74 : Code := cL goeritz_n73
noncomputable def goeritz_n75 : Code := cR goeritz_n73
noncomputable def goeritz_n76 : Code := cL goeritz_n71
noncomputable def goeritz_n77 : Code := cR goeritz_n71
noncomputable def goeritz_n78 : Code := cL goeritz_n76
noncomputable def goeritz_n79 : Code := cR goeritz_n76
noncomputable def goeritz_n80 : Code := cL goeritz_n79
noncomputable def goeritz_n81 : Code := cR goeritz_n79
noncomputable def goeritz_n82 : Code := cL goeritz_n81
noncomputable def goeritz_n83 : Code := cR goeritz_n81
noncomputable def goeritz_n84 : Code := cL goeritz_n82
noncomputable def goeritz_n85 : Code := cR goeritz_n82
noncomputable def goeritz_n86 : Code := cL goeritz_n85
noncomputable def goeritz_n87 : Code := cR goeritz_n85
noncomputable def goeritz_n88 : Code := cL goeritz_n87
noncomputable def goeritz_n89 : Code := cR goeritz_n87
noncomputable def goeritz_n90 : Code := cL goeritz_n77
noncomputable def goeritz_n91 : Code := cR goeritz_n77
noncomputable def goeritz_n92 : Code := cL goeritz_n91
noncomputable def goeritz_n93 : Code := cR goeritz_n91
noncomputable def goeritz_n94 : Code := cL goeritz_n52
noncomputable def goeritz_n95 : Code := cR goeritz_n52
set_option maxHeartbeats 2000000 in
set_option maxRecDepth 10000 in
theorem goeritz_t {w : World} {M : Hp} {X : Fr} (d : Dg) {gch gsh gqm : Nat} {cA iA oA sA : Option Addr} {cc ic oc sc : Nat} (sd : Int) (hcb : BxM M gch 46 [.pointer (some ⟨gsh, 0, none⟩), .map (some gqm), .slice sA (shL d).length sc]) (hsb : BxM M gsh 61 [.slice cA d.crs.length cc, .int .i64 d.loops, .slice iA (tabL d false (4 * d.crs.length)).length ic, .slice oA (tabL d true (4 * d.crs.length)).length oc]) (hsc : RdA cdCr M cA cc d.crs) (hsi : RdA cdPl M iA ic (tabL d false (4 * d.crs.length))) (hso : RdA cdPl M oA oc (tabL d true (4 * d.crs.length))) (hmp : MpOk (fun x => Value.agg (cdDa.f x).toArray) (Value.int .i64) gqm (fmap d) M) (hss : RdA cdInt M sA sc (shL d)) (hn : d.crs.length ≤ 16) (hS : OkS d) (h01 : sd = 0 ∨ sd = 1) (S : SH w M X []) : Ct Try.prog 13 [.pointer (some ⟨gch, 0, none⟩), .int .i64 sd] w M X (fun u N => ∃ A c vs, u = .tuple [.slice A vs.length c, .int .i64 (gX d sd d.crs.length)].toArray ∧ RdA (cdV 25) N A c vs ∧ Rd2 cdInt N vs (gzL d sd)) := by
 unfold Ct
 have hab := hS.ab
 have hfn := hS.fn
 have hgm := gm_le d sd
 have hsl := shL_len d
 refine calls_in (b := goeritz_n0) Try.func13 rfl Try.ntmps13 rfl (fun C hC => (ws_sub [(0, _), (1, _)] ⟨rfl, rfl, trivial⟩ (ws_seqN goeritz_n1 goeritz_n2 rfl rfl rfl (ws_region rfl (wla 0 1 rfl rfl rfl rfl rfl rfl rfl ?_)))))
 refine wla 1 2 rfl rfl rfl rfl rfl rfl rfl (wl_end rfl (nmk [0, 1] rfl (nm_thn (ws_seqN goeritz_n3 goeritz_n4 rfl rfl rfl ?_))))
 refine ws_region rfl (wlm 0 1 rfl rfl rfl rfl rfl rfl rfl (wlo 1 2 rfl rfl rfl (wo_run rfl rfl (run_nilCheck rfl rfl) (wlo 2 3 rfl rfl rfl (wo_run rfl rfl (run_fieldAddr rfl rfl Try.underlying46 rfl (ce25) (nf25)) (wlo 3 4 rfl rfl rfl (wo_run rfl rfl (run_load1 rfl rfl Try.underlying25 rfl (hcb.cell S.m rfl)) ?_)))))))
 refine wlo 4 5 rfl rfl rfl (wo_run rfl rfl (run_len rfl rfl rfl rfl rfl rfl Try.underlying25) (wlo 5 6 rfl rfl rfl (wo_make (C := cdInt) ((shL d).length) rfl rfl rfl rfl rfl sl25 (by first | rfl | omega) (by show _ * 8 ≤ _; first | assumption | omega | (simp only [lens]; omega)) S ?_)))
 intro vr1 w1 S1; clear S
 refine wla 6 7 rfl rfl rfl rfl rfl rfl rfl (wl_end rfl (nmk [0, 1, 6] rfl (nm_thn (ws_seqN goeritz_n5 goeritz_n6 rfl rfl rfl ?_))))
 refine ws_region rfl (wla 0 1 rfl rfl rfl rfl rfl rfl rfl (wl_end rfl (nm_thn (ws_seqN goeritz_n7 goeritz_n8 rfl rfl rfl ?_))))
 refine ws_seqN goeritz_n9 goeritz_n10 rfl rfl rfl (ws_region rfl (wlm 0 1 rfl rfl rfl rfl rfl rfl rfl (wlo 1 2 rfl rfl rfl (wo_run rfl rfl (run_nilCheck rfl rfl) (wlo 2 3 rfl rfl rfl (wo_run rfl rfl (run_fieldAddr rfl rfl Try.underlying46 rfl (ce25) (nf25)) ?_))))))
 refine wlo 3 4 rfl rfl rfl (wo_run rfl rfl (run_load1 rfl rfl Try.underlying25 rfl (hcb.cell S1.m rfl)) (wlo 4 5 rfl rfl rfl (wo_run rfl rfl (run_len rfl rfl rfl rfl rfl rfl Try.underlying25) (wlm 5 6 rfl rfl rfl rfl rfl rfl rfl (wl_end rfl (nmk [0, 1, 6, 7, 29, 30, 31] rfl ?_))))))
 refine nm_thn (ws_blockN goeritz_n11 0 rfl rfl rfl ?_)
 refine ws_loopE (fun mx_ ax_ wx_ => ∃ (i : Nat) (ps : List Int) (vrp : Value), mx_ = (fcsC d).length - i ∧ Env 156 [(0, .pointer (some ⟨gch, 0, none⟩)), (1, .int .i64 sd), (6, vrp), (7, .int .i64 ((gnum d sd i : Nat) : Int)), (29, .slice sA (shL d).length sc), (30, .int .i64 ((shL d).length : Int)), (31, .int .i64 (i : Int))] ax_ ∧ SH wx_ M X [Rs.row cdInt vrp ps] ∧ i ≤ (fcsC d).length ∧ ps = numP d sd i) rfl ?_ ?_
 ·intro ax_ hax_
  refine ⟨_, ⟨0, _, _, rfl, hax_.sub ⟨rfl, rfl, rfl, rfl, rfl, rfl, rfl, trivial⟩, S1.pick [0] [_] (by decide) ⟨rfl, trivial⟩, ?hq1f0, ?hq1f1⟩⟩
  case hq1f0 => omega
  case hq1f1 => (rw [hsl]; rfl)
 ·rintro m1 a1 w2 ⟨i, ps, vrp, rfl, he1, S2, hi, hps⟩
  clear S1
  refine ws_in he1 (c := goeritz_n12) rfl ?_
  clear he1 a1
  have hpl : ps.length = (fcsC d).length := by rw [hps, numP_len]
  have hgl := gnum_le d sd i
  refine ws_seqN goeritz_n13 goeritz_n14 rfl rfl rfl (ws_region rfl (wlo 0 1 rfl rfl rfl (wo_run rfl rfl (run_lss rfl rfl rfl) (wl_end rfl (nm_thn ?_)))))
  refine ws_seqN goeritz_n15 goeritz_n16 rfl rfl rfl ?_
  refine ws_condN goeritz_n17 goeritz_n18 rfl rfl rfl rfl (fun hb32 => ?_) (fun hb32 => ?_)
  ·replace hb32 := of_decide_eq_true hb32
   refine ws_skip rfl (nmk [0, 1, 6, 7, 29, 30, 31] rfl (nm_thn (ws_seqN goeritz_n19 goeritz_n20 rfl rfl rfl (ws_blockN goeritz_n21 1 rfl rfl rfl ?_))))
   refine ws_seqN goeritz_n22 goeritz_n23 rfl rfl rfl (ws_region rfl (wlm 0 1 rfl rfl rfl rfl rfl rfl rfl (wlo 1 2 rfl rfl rfl (wo_run rfl rfl (run_indexM (C := cdInt) i rfl rfl rfl sl25 (by first | rfl | omega) hss (by first | assumption | omega | (simp only [lens]; omega))) ?_))))
   refine wlo 2 3 rfl rfl rfl (wo_run rfl rfl (run_load1 rfl rfl Try.underlying3 rfl (hss.cell S2.m (i := i) (by first | assumption | omega | (simp only [lens]; omega)) 0 rfl rfl)) ?_)
   refine wla 3 4 rfl rfl rfl rfl rfl rfl rfl (wla 4 5 rfl rfl rfl rfl rfl rfl rfl (wl_end rfl (nmk [0, 1, 6, 7, 29, 30, 31, 8, 9] rfl (nm_thn ?_))))
   refine ws_seqN goeritz_n24 goeritz_n25 rfl rfl rfl (ws_region rfl (wlm 0 1 rfl rfl rfl rfl rfl rfl rfl (wlm 1 2 rfl rfl rfl rfl rfl rfl rfl (wlo 2 3 rfl rfl rfl (wo_run rfl rfl (run_eql rfl rfl rfl) ?_)))))
   refine wl_end rfl (nmk [0, 1, 6, 7, 29, 30, 31, 8, 38] rfl (nm_thn ?_))
   refine ws_condN goeritz_n26 goeritz_n27 rfl rfl rfl rfl (fun hb38 => ?_) (fun hb38 => ?_)
   ·replace hb38 := of_decide_eq_true hb38
    rw [shL_ga (d := d) (i := i) (by omega)] at hb38
    refine ws_seqN goeritz_n28 goeritz_n29 rfl rfl rfl (ws_region rfl (wlm 0 1 rfl rfl rfl rfl rfl rfl rfl (wlm 1 2 rfl rfl rfl rfl rfl rfl rfl (wlm 2 3 rfl rfl rfl rfl rfl rfl rfl ?_))))
    refine wlo 3 4 rfl rfl rfl (wo_run rfl rfl (run_indexR (C := cdInt) (i := 0) i rfl rfl rfl sl25 S2 rfl (by first | rfl | omega) (by first | assumption | omega | (simp only [lens]; omega))) ?_)
    refine wlo 4 5 rfl rfl rfl (wo_storeR (C := cdInt) (i := 0) (e := i) (j := 0) (us := [_]) (H' := [_]) ((gnum d sd i : Nat) : Int) rfl rfl S2 rfl (by first | assumption | omega | (simp only [lens]; omega)) rfl rfl rfl sz3 rfl rfl rfl rfl ?_)
    intro w3 S3; clear S2
    refine wl_end rfl (nmk [0, 1, 6, 7, 29, 30, 31] rfl (nm_thn (ws_region rfl (wlm 0 1 rfl rfl rfl rfl rfl rfl rfl ?_))))
    refine wlo 1 2 rfl rfl rfl (wo_run rfl rfl (run_add rfl rfl rfl (by first | assumption | omega | (simp only [lens]; omega))) ?_)
    refine wla 2 3 rfl rfl rfl rfl rfl rfl rfl (wl_end rfl (nm_blk (nmk [0, 1, 6, 7, 29, 30, 31] rfl (nm_thn ?_))))
    refine ws_eq 7 (.int .i64 ((gnum d sd (i + 1) : Nat) : Int)) rfl (int_eq (by rw [gnum_t (by assumption)]; omega)) ?_
    refine ws_region rfl (wlo 0 1 rfl rfl rfl (wo_run rfl rfl (run_add rfl rfl rfl (by first | assumption | omega | (simp only [lens]; omega))) ?_))
    refine wlm 1 2 rfl rfl rfl rfl rfl rfl rfl (wl_end rfl (nm_lp ?_))
    intro ax_ hax_
    refine ⟨_, ?hq2m, ⟨i + 1, _, _, rfl, hax_.sub ⟨rfl, rfl, rfl, rfl, rfl, rfl, rfl, trivial⟩, S3.pick [0] [_] (by decide) ⟨rfl, trivial⟩, ?hq2f0, ?hq2f1⟩⟩
    case hq2f0 => omega
    case hq2f1 => (rw [numP]; first | (rw [if_pos (by assumption), hps]) | (rw [if_neg (by assumption)]; exact hps))
    case hq2m => omega
   ·replace hb38 := of_decide_eq_false hb38
    rw [shL_ga (d := d) (i := i) (by omega)] at hb38
    refine ws_skip rfl (nm_blk (nmk [0, 1, 6, 7, 29, 30, 31] rfl (nm_thn (ws_eq 7 (.int .i64 ((gnum d sd (i + 1) : Nat) : Int)) rfl (int_eq (by rw [gnum_f (by assumption)])) ?_))))
    refine ws_region rfl (wlo 0 1 rfl rfl rfl (wo_run rfl rfl (run_add rfl rfl rfl (by first | assumption | omega | (simp only [lens]; omega))) ?_))
    refine wlm 1 2 rfl rfl rfl rfl rfl rfl rfl (wl_end rfl (nm_lp ?_))
    intro ax_ hax_
    refine ⟨_, ?hq3m, ⟨i + 1, _, _, rfl, hax_.sub ⟨rfl, rfl, rfl, rfl, rfl, rfl, rfl, trivial⟩, S2.pick [0] [_] (by decide) ⟨rfl, trivial⟩, ?hq3f0, ?hq3f1⟩⟩
    case hq3f0 => omega
    case hq3f1 => (rw [numP]; first | (rw [if_pos (by assumption), hps]) | (rw [if_neg (by assumption)]; exact hps))
    case hq3m => omega
  ·replace hb32 := of_decide_eq_false hb32
   refine ws_exit rfl rfl (nmk [0, 1, 6, 7] rfl (nm_thn (ws_seqN goeritz_n30 goeritz_n31 rfl rfl rfl (ws_eq 7 (.int .i64 ((gm d sd : Nat) : Int)) rfl (int_eq (by obtain rfl : i = (fcsC d).length := (by omega); rfl)) ?_))))
   have hrc1 : ps = (numP d sd (fcsC d).length) := by (obtain rfl : i = (fcsC d).length := (by omega); exact hps)
   rw [hrc1] at S2; clear hrc1
   refine ws_region rfl (wlm 0 1 rfl rfl rfl rfl rfl rfl rfl (wlo 1 2 rfl rfl rfl (wo_make (C := (cdV 25)) (gm d sd) rfl rfl rfl rfl rfl sl30 (by first | rfl | omega) (by show _ * 24 ≤ _; first | assumption | omega | (simp only [lens]; omega)) S2 ?_)))
   intro vr2 w4 S4; clear S2
   have S5 := S4.newtab cdInt (gm d sd); clear S4
   refine wla 2 3 rfl rfl rfl rfl rfl rfl rfl (wl_end rfl (nmk [0, 1, 6, 7, 10] rfl (nm_thn (ws_seqN goeritz_n32 goeritz_n33 rfl rfl rfl ?_))))
   refine ws_seqN goeritz_n34 goeritz_n35 rfl rfl rfl (ws_region rfl (wlm 0 1 rfl rfl rfl rfl rfl rfl rfl (wlo 1 2 rfl rfl rfl (wo_run rfl rfl (run_lenR (C := (cdV 25)) (i := 1) rfl rfl rfl rfl rfl rfl sl30 S5 rfl) (wl_eq 49 (.int .i64 ((gm d sd : Nat) : Int)) rfl (int_eq (by rw [List.length_replicate])) ?_)))))
   refine wlm 2 3 rfl rfl rfl rfl rfl rfl rfl (wl_end rfl (nmk [0, 1, 6, 7, 10, 49, 50] rfl (nm_thn (ws_blockN goeritz_n36 2 rfl rfl rfl ?_))))
   refine ws_loopE (fun mx_ ax_ wx_ => ∃ (i : Nat) (vs : List SlV) (tb0 : List (List Int)) (vrt0 : Value), mx_ = (gm d sd) - i ∧ Env 156 [(0, .pointer (some ⟨gch, 0, none⟩)), (1, .int .i64 sd), (6, vrp), (7, .int .i64 ((gm d sd : Nat) : Int)), (10, vrt0), (49, .int .i64 ((gm d sd : Nat) : Int)), (50, .int .i64 (i : Int))] ax_ ∧ SH wx_ M X [Rs.tab cdInt vs tb0, Rs.row (cdV 25) vrt0 vs, Rs.row cdInt vrp (numP d sd (fcsC d).length)] ∧ i ≤ (gm d sd) ∧ vs.length = (gm d sd) ∧ tb0.length = (gm d sd) ∧ (∀ j, j < i → ga tb0 j = List.replicate (gm d sd) 0)) rfl ?_ ?_
   ·intro ax_ hax_
    refine ⟨_, ⟨0, _, _, _, rfl, hax_.sub ⟨rfl, rfl, rfl, rfl, rfl, rfl, rfl, trivial⟩, S5.pick [0, 1, 2] [_, _, _] (by decide) ⟨rfl, rfl, rfl, trivial⟩, ?hq4f0, ?hq4f1, ?hq4f2, ?hq4f3⟩⟩
    case hq4f0 => omega
    case hq4f1 => (rw [List.length_replicate])
    case hq4f2 => (rw [List.length_replicate])
    case hq4f3 => (intro j hj; omega)
   ·rintro m2 a2 w5 ⟨i, vs, tb0, vrt0, rfl, he2, S6, hi, hvl, htb0, hz0⟩
    clear S5
    refine ws_in he2 (c := goeritz_n37) rfl ?_
    clear he2 a2
    refine ws_seqN goeritz_n38 goeritz_n39 rfl rfl rfl (ws_region rfl (wlo 0 1 rfl rfl rfl (wo_run rfl rfl (run_lss rfl rfl rfl) (wl_end rfl (nm_thn ?_)))))
    refine ws_seqN goeritz_n40 goeritz_n41 rfl rfl rfl ?_
    refine ws_condN goeritz_n42 goeritz_n43 rfl rfl rfl rfl (fun hb51 => ?_) (fun hb51 => ?_)
    ·replace hb51 := of_decide_eq_true hb51
     refine ws_skip rfl (nmk [0, 1, 6, 7, 10, 49, 50] rfl (nm_thn (ws_seqN goeritz_n44 goeritz_n45 rfl rfl rfl (ws_blockN goeritz_n46 3 rfl rfl rfl ?_))))
     refine ws_seqN goeritz_n47 goeritz_n48 rfl rfl rfl (ws_region rfl (wlm 0 1 rfl rfl rfl rfl rfl rfl rfl (wla 1 2 rfl rfl rfl rfl rfl rfl rfl (wl_end rfl ?_))))
     refine nmk [0, 1, 6, 7, 10, 49, 50, 11] rfl (nm_thn (ws_region rfl (wlm 0 1 rfl rfl rfl rfl rfl rfl rfl (wlm 1 2 rfl rfl rfl rfl rfl rfl rfl ?_))))
     refine wlm 2 3 rfl rfl rfl rfl rfl rfl rfl (wlo 3 4 rfl rfl rfl (wo_make (C := cdInt) (gm d sd) rfl rfl rfl rfl rfl sl25 (by first | rfl | omega) (by show _ * 8 ≤ _; first | assumption | omega | (simp only [lens]; omega)) S6 ?_))
     intro vr3 w6 S7; clear S6
     refine wlo 4 5 rfl rfl rfl (wo_run rfl rfl (run_indexR (C := (cdV 25)) (i := 2) i rfl rfl rfl sl30 S7 rfl (by first | rfl | omega) (by first | assumption | omega | (simp only [lens]; omega))) ?_)
     obtain ⟨A1, c1, rfl, _⟩ := S7.sl (i := 0) rfl
     have S9 := S7.tabput (C := cdInt) (zs := (List.replicate (gm d sd) cdInt.z)) (i := 1) (q := 0) (H' := [_, _, _, _]) i rfl rfl (by decide) (by first | assumption | omega | (simp only [lens]; omega) | (rw [ga_set _ _ _ _ (by first | omega | (simp only [List.length_set]; omega)), if_pos rfl]; simp only [List.length_set]; omega)) rfl; clear S7
     refine wlo 5 6 rfl rfl rfl (wo_storeR (C := (cdV 25)) (i := 2) (e := i) (j := 0) (us := [_]) (H' := [_, _, _, _]) (⟨A1, (List.replicate (gm d sd) cdInt.z).length, c1⟩ : SlV) rfl rfl S9 rfl (by first | assumption | omega | (simp only [lens]; omega)) rfl rfl rfl sz25 rfl rfl rfl rfl ?_)
     intro w8 S10; clear S9
     refine wl_end rfl (nm_blk (nmk [0, 1, 6, 7, 10, 49, 50] rfl (nm_thn (ws_region rfl ?_))))
     refine wlo 0 1 rfl rfl rfl (wo_run rfl rfl (run_add rfl rfl rfl (by first | assumption | omega | (simp only [lens]; omega))) ?_)
     refine wlm 1 2 rfl rfl rfl rfl rfl rfl rfl (wl_end rfl (nm_lp ?_))
     intro ax_ hax_
     refine ⟨_, ?hq5m, ⟨i + 1, _, _, _, rfl, hax_.sub ⟨rfl, rfl, rfl, rfl, rfl, rfl, rfl, trivial⟩, S10.pick [1, 2, 3] [_, _, _] (by decide) ⟨rfl, rfl, rfl, trivial⟩, ?hq5f0, ?hq5f1, ?hq5f2, ?hq5f3⟩⟩
     case hq5f0 => omega
     case hq5f1 => simpa using hvl
     case hq5f2 => simpa using htb0
     case hq5f3 => (intro j h1; rw [ga_set _ _ _ _ (by omega)]; split; rfl; exact hz0 j (by omega))
     case hq5m => omega
    ·replace hb51 := of_decide_eq_false hb51
     refine ws_exit rfl rfl (nmk [0, 1, 6, 10] rfl (nm_thn (ws_seqN goeritz_n49 goeritz_n50 rfl rfl rfl (ws_region rfl ?_))))
     refine wla 0 1 rfl rfl rfl rfl rfl rfl rfl (wl_end rfl (nm_thn (ws_seqN goeritz_n51 goeritz_n52 rfl rfl rfl (ws_seqN goeritz_n53 goeritz_n54 rfl rfl rfl ?_))))
     refine ws_eq 12 (.int .i64 (gX d sd 0)) rfl (int_eq rfl) (ws_region rfl (wlm 0 1 rfl rfl rfl rfl rfl rfl rfl (wlo 1 2 rfl rfl rfl (wo_run rfl rfl (run_nilCheck rfl rfl) (wlo 2 3 rfl rfl rfl (wo_run rfl rfl (run_fieldAddr rfl rfl Try.underlying46 rfl (ce43) (nf43)) ?_))))))
     refine wlo 3 4 rfl rfl rfl (wo_run rfl rfl (run_load1 rfl rfl Try.underlying43 rfl (hcb.cell S6.m rfl)) (wlo 4 5 rfl rfl rfl (wo_run rfl rfl (run_nilCheck rfl rfl) (wlo 5 6 rfl rfl rfl (wo_run rfl rfl (run_fieldAddr rfl rfl Try.underlying61 rfl (ce24) (nf24)) (wlo 6 7 rfl rfl rfl (wo_run rfl rfl (run_fieldAddr rfl rfl Try.underlying24 rfl (ce22) (nf22)) (wlo 7 8 rfl rfl rfl (wo_run rfl rfl (run_load1 rfl rfl Try.underlying22 rfl (hsb.cell S6.m rfl)) ?_)))))))))
     refine wlo 8 9 rfl rfl rfl (wo_run rfl rfl (run_len rfl rfl rfl rfl rfl rfl Try.underlying22) (wlm 9 10 rfl rfl rfl rfl rfl rfl rfl (wl_end rfl (nmk [0, 1, 6, 10, 12, 66, 67, 68] rfl (nm_thn ?_)))))
     refine ws_blockN goeritz_n55 4 rfl rfl rfl ?_
     refine ws_loopE (fun mx_ ax_ wx_ => ∃ (c : Nat) (vs : List SlV) (tb : List (List Int)) (vrt : Value), mx_ = d.crs.length - c ∧ Env 156 [(0, .pointer (some ⟨gch, 0, none⟩)), (1, .int .i64 sd), (6, vrp), (10, vrt), (12, .int .i64 (gX d sd c)), (66, .slice cA d.crs.length cc), (67, .int .i64 (d.crs.length : Int)), (68, .int .i64 (c : Int))] ax_ ∧ SH wx_ M X [Rs.tab cdInt vs tb, Rs.row (cdV 25) vrt vs, Rs.row cdInt vrp (numP d sd (fcsC d).length)] ∧ c ≤ d.crs.length ∧ vs.length = (gm d sd) ∧ tb = tbl (gm d sd) (gE d sd c)) rfl ?_ ?_
     ·intro ax_ hax_
      refine ⟨_, ⟨0, _, tb0, _, rfl, hax_.sub ⟨rfl, rfl, rfl, rfl, rfl, rfl, rfl, rfl, trivial⟩, S6.pick [0, 1, 2] [_, _, _] (by decide) ⟨rfl, rfl, rfl, trivial⟩, ?hq6f0, ?hq6f1, ?hq6f2⟩⟩
      case hq6f0 => omega
      case hq6f1 => omega
      case hq6f2 => (refine tbl_ext _ (by omega) (fun i hi => ?_) (fun i j hi hj => ?_); (rw [hz0 i (by omega), List.length_replicate]); (rw [hz0 i (by omega), ga_rep _ _ _ hj]; rfl))
     ·rintro m3 a3 w9 ⟨c, vs, tb, vrt, rfl, he3, S11, hc, hvl, htb⟩
      clear S6
      refine ws_in he3 (c := goeritz_n56) rfl ?_
      clear he3 a3
      refine ws_seqN goeritz_n57 goeritz_n58 rfl rfl rfl (ws_region rfl (wlo 0 1 rfl rfl rfl (wo_run rfl rfl (run_lss rfl rfl rfl) (wl_end rfl (nm_thn ?_)))))
      refine ws_seqN goeritz_n59 goeritz_n60 rfl rfl rfl ?_
      refine ws_condN goeritz_n61 goeritz_n62 rfl rfl rfl rfl (fun hb69 => ?_) (fun hb69 => ?_)
      ·replace hb69 := of_decide_eq_true hb69
       have hf0 := fcJ_lt hS (j := 4 * c + 0) (by omega)
       have hf1 := fcJ_lt hS (j := 4 * c + 1) (by omega)
       have hf2 := fcJ_lt hS (j := 4 * c + 2) (by omega)
       have hf3 := fcJ_lt hS (j := 4 * c + 3) (by omega)
       have hpl : (numP d sd (fcsC d).length).length = (fcsC d).length := numP_len _ _ _
       have har := shv_around hS (c := c) (by omega)
       have hb01 := shv_bd d (fcJ d (4 * c + 0))
       refine ws_skip rfl (nmk [0, 1, 6, 10, 12, 66, 67, 68] rfl (nm_thn (ws_seqN goeritz_n63 goeritz_n64 rfl rfl rfl (ws_blockN goeritz_n65 5 rfl rfl rfl ?_))))
       refine ws_seqN goeritz_n66 goeritz_n67 rfl rfl rfl (ws_region rfl (wlm 0 1 rfl rfl rfl rfl rfl rfl rfl (wlo 1 2 rfl rfl rfl (wo_run rfl rfl (run_indexM (C := cdCr) c rfl rfl rfl sl22 (by first | rfl | omega) hsc (by first | assumption | omega | (simp only [lens]; omega))) ?_))))
       refine wlo 2 3 rfl rfl rfl (wo_run rfl rfl (run_loadN (us := [_, _, _, _, _]) rfl rfl Try.underlying55 rfl sz55 (hsc.cellsAt S11.m (e := c) (by first | assumption | omega | (simp only [lens]; omega)) (j := 0) ⟨rfl, rfl, rfl, rfl, rfl, trivial⟩)) ?_)
       refine wlo 3 4 rfl rfl rfl (wo_alloc (l := [_, _, _, _, _]) rfl rfl rfl zr55 rfl S11 ?_)
       intro gb1 w10 S12; clear S11
       refine wla 4 5 rfl rfl rfl rfl rfl rfl rfl (wlo 5 6 rfl rfl rfl (wo_storeB (i := 0) (us := [_, _, _, _, _]) (l' := [_, _, _, _, _]) (H' := [_, _, _, _]) rfl rfl S12 rfl rfl rfl rfl sz55 rfl rfl rfl rfl ?_))
       intro w11 S13; clear S12
       refine wl_end rfl (nmk [0, 1, 6, 10, 12, 66, 67, 68, 14, 13] rfl (nm_thn (ws_seqN goeritz_n68 goeritz_n69 rfl rfl rfl (ws_region rfl ?_))))
       refine wlm 0 1 rfl rfl rfl rfl rfl rfl rfl (wlm 1 2 rfl rfl rfl rfl rfl rfl rfl (wlo 2 3 rfl rfl rfl (wo_cq rfl rfl rfl rfl rfl rfl rfl cf22 S13 (ahead_q d c 2 (hcb.mono (Hp.le_un _ _)) (hsb.mono (Hp.le_un _ _)) (hsc.mono (Hp.le_un _ _)) (hsi.mono (Hp.le_un _ _)) (hso.mono (Hp.le_un _ _)) (hmp.mono (Hp.le_un _ _)) (hss.mono (Hp.le_un _ _)) hn hS (by omega) (by omega) (q := 1) rfl S13.lend) ?_)))
       rintro _ w12 S14 rfl; clear S13
       refine wlm 3 4 rfl rfl rfl rfl rfl rfl rfl (wlm 4 5 rfl rfl rfl rfl rfl rfl rfl (wlo 5 6 rfl rfl rfl (wo_cq rfl rfl rfl rfl rfl rfl rfl cf22 S14 (ahead_q d c 0 (hcb.mono (Hp.le_un _ _)) (hsb.mono (Hp.le_un _ _)) (hsc.mono (Hp.le_un _ _)) (hsi.mono (Hp.le_un _ _)) (hso.mono (Hp.le_un _ _)) (hmp.mono (Hp.le_un _ _)) (hss.mono (Hp.le_un _ _)) hn hS (by omega) (by omega) (q := 3) rfl S14.lend) ?_)))
       rintro _ w13 S15 rfl; clear S14
       refine wla 6 7 rfl rfl rfl rfl rfl rfl rfl (wla 7 8 rfl rfl rfl rfl rfl rfl rfl (wla 8 9 rfl rfl rfl rfl rfl rfl rfl (wl_end rfl (nmk [0, 1, 6, 10, 12, 66, 67, 68, 14, 13, 15, 16, 17] rfl ?_))))
       refine nm_thn (ws_seqN goeritz_n70 goeritz_n71 rfl rfl rfl (ws_seqN goeritz_n72 goeritz_n73 rfl rfl rfl (ws_region rfl (wlm 0 1 rfl rfl rfl rfl rfl rfl rfl ?_))))
       refine wlo 1 2 rfl rfl rfl (wo_run rfl rfl (run_nilCheck rfl rfl) (wlo 2 3 rfl rfl rfl (wo_run rfl rfl (run_fieldAddr rfl rfl Try.underlying46 rfl (ce25) (nf25)) (wlo 3 4 rfl rfl rfl (wo_run rfl rfl (run_load1 rfl rfl Try.underlying25 rfl (hcb.cell S15.m rfl)) (wlm 4 5 rfl rfl rfl rfl rfl rfl rfl (wlo 5 6 rfl rfl rfl (wo_run rfl rfl (run_indexM (C := cdInt) (fcJ d (4 * c + 1)) rfl rfl rfl sl25 (by first | rfl | omega) hss (by first | assumption | omega | (simp only [lens]; omega))) ?_))))))))
       refine wlo 6 7 rfl rfl rfl (wo_run rfl rfl (run_load1 rfl rfl Try.underlying3 rfl (hss.cell S15.m (i := fcJ d (4 * c + 1)) (by first | assumption | omega | (simp only [lens]; omega)) 0 rfl rfl)) ?_)
       refine wlm 7 8 rfl rfl rfl rfl rfl rfl rfl (wlo 8 9 rfl rfl rfl (wo_run rfl rfl (run_neq rfl rfl rfl) (wl_end rfl (nmk [0, 1, 6, 10, 12, 66, 67, 68, 14, 13, 15, 16, 17, 87] rfl (nm_thn ?_)))))
       refine ws_condN goeritz_n74 goeritz_n75 rfl rfl rfl rfl (fun hb87 => ?_) (fun hb87 => ?_)
       ·replace hb87 := of_decide_eq_true hb87
        rw [shL_ga hf1] at hb87
        have hb77 : shv d (fcJ d (4 * c + 0)) = sd := by omega
        obtain ⟨gi, hgi0⟩ : ∃ x, x = gI d sd c := ⟨_, rfl⟩
        obtain ⟨gj, hgj0⟩ : ∃ x, x = gJ d sd c := ⟨_, rfl⟩
        obtain ⟨hI, hJ, hgw, hs2, hgi, hgj⟩ := g_yes hS (by omega) hb77
        rw [← hgi0] at hI hgi
        rw [← hgj0] at hJ hgj
        have hs1 := hb77
        have hx1 := numP_ga (d := d) (s := sd) (Nat.le_refl _) hf0 hs1
        have hx2 := numP_ga (d := d) (s := sd) (Nat.le_refl _) hf2 hs2
        clear hb87 har hb01
        refine ws_region rfl (wlm 0 1 rfl rfl rfl rfl rfl rfl rfl (wlm 1 2 rfl rfl rfl rfl rfl rfl rfl (wlo 2 3 rfl rfl rfl (wo_cq rfl rfl rfl rfl rfl rfl rfl cf22 S15 (ahead_q d c 1 (hcb.mono (Hp.le_un _ _)) (hsb.mono (Hp.le_un _ _)) (hsc.mono (Hp.le_un _ _)) (hsi.mono (Hp.le_un _ _)) (hso.mono (Hp.le_un _ _)) (hmp.mono (Hp.le_un _ _)) (hss.mono (Hp.le_un _ _)) hn hS (by omega) (by omega) (q := 0) rfl S15.lend) ?_))))
        rintro _ w14 S16 rfl; clear S15
        refine wlm 3 4 rfl rfl rfl rfl rfl rfl rfl (wlm 4 5 rfl rfl rfl rfl rfl rfl rfl (wlo 5 6 rfl rfl rfl (wo_cq rfl rfl rfl rfl rfl rfl rfl cf22 S16 (ahead_q d c 3 (hcb.mono (Hp.le_un _ _)) (hsb.mono (Hp.le_un _ _)) (hsc.mono (Hp.le_un _ _)) (hsi.mono (Hp.le_un _ _)) (hso.mono (Hp.le_un _ _)) (hmp.mono (Hp.le_un _ _)) (hss.mono (Hp.le_un _ _)) hn hS (by omega) (by omega) (q := 2) rfl S16.lend) ?_)))
        rintro _ w15 S17 rfl; clear S16
        refine wla 6 7 rfl rfl rfl rfl rfl rfl rfl (wla 7 8 rfl rfl rfl rfl rfl rfl rfl (wla 8 9 rfl rfl rfl rfl rfl rfl rfl (wl_end rfl (nmk [0, 1, 6, 10, 12, 66, 67, 68, 14, 15, 16, 17] rfl ?_))))
        refine nm_thn (ws_seqN goeritz_n76 goeritz_n77 rfl rfl rfl (ws_seqN goeritz_n78 goeritz_n79 rfl rfl rfl (ws_draw rfl (by kernel_rfl) S17 10 rfl ?_)))
        clear S17
        refine wap 0 9 rfl (by kernel_rfl) rfl rfl rfl (fun w16 => run_move rfl rfl) ?_
        refine wap 1 8 rfl (by kernel_rfl) rfl rfl rfl (fun w17 => run_move rfl rfl) ?_
        refine wat 2 7 rfl (by kernel_rfl) rfl rfl rfl (fun M3 N3 w18 hle6 S20 => .inl (run_indexR (C := cdInt) (i := 3) (fcJ d (4 * c + 0)) rfl rfl rfl sl25 S20.suf rfl (by first | rfl | omega) (by first | assumption | omega | (simp only [lens]; omega)))) ?_
        refine wat 3 6 rfl (by kernel_rfl) rfl rfl rfl (fun M4 N4 w19 hle7 S21 => .inl (run_load1 rfl rfl Try.underlying3 rfl (S21.suf.rowc (i := 3) (e := fcJ d (4 * c + 0)) (j := 0) rfl (by first | assumption | omega | (simp only [lens]; omega)) rfl rfl))) ?_
        refine wap 4 5 rfl (by kernel_rfl) rfl rfl rfl (fun w20 => run_move rfl rfl) ?_
        refine wap 5 4 rfl (by kernel_rfl) rfl rfl rfl (fun w21 => run_move rfl rfl) ?_
        refine wat 6 3 rfl (by kernel_rfl) rfl rfl rfl (fun M7 N7 w22 hle10 S24 => .inl (run_indexR (C := cdInt) (i := 3) (fcJ d (4 * c + 2)) rfl rfl rfl sl25 S24.suf rfl (by first | rfl | omega) (by first | assumption | omega | (simp only [lens]; omega)))) ?_
        refine wat 7 2 rfl (by kernel_rfl) rfl rfl rfl (fun M8 N8 w23 hle11 S25 => .inl (run_load1 rfl rfl Try.underlying3 rfl (S25.suf.rowc (i := 3) (e := fcJ d (4 * c + 2)) (j := 0) rfl (by first | assumption | omega | (simp only [lens]; omega)) rfl rfl))) ?_
        refine wap 8 1 rfl (by kernel_rfl) rfl rfl rfl (fun w24 => run_assign rfl rfl) ?_
        refine wap 9 0 rfl (by kernel_rfl) rfl rfl rfl (fun w25 => run_assign rfl rfl) ?_
        refine wa_end (by kernel_rfl) (fun w26 S28 => ?_)
        refine nmk [0, 1, 6, 10, 12, 66, 67, 68, 14, 15, 18, 19] rfl (nm_thn (ws_seqN goeritz_n80 goeritz_n81 rfl rfl rfl (ws_eq 18 (.int .i64 ((gi : Nat) : Int)) rfl (int_eq (by rw [hx1, hI])) ?_)))
        refine ws_eq 19 (.int .i64 ((gj : Nat) : Int)) rfl (int_eq (by rw [hx2, hJ])) ?_
        refine ws_region rfl (wlm 0 1 rfl rfl rfl rfl rfl rfl rfl (wlm 1 2 rfl rfl rfl rfl rfl rfl rfl (wlo 2 3 rfl rfl rfl (wo_run rfl rfl (run_neq rfl rfl rfl) (wl_end rfl ?_)))))
        refine nmk [0, 1, 6, 10, 12, 66, 67, 68, 14, 15, 18, 19, 104] rfl (nm_thn ?_)
        refine ws_condN goeritz_n82 goeritz_n83 rfl rfl rfl rfl (fun hb104 => ?_) (fun hb104 => ?_)
        ·replace hb104 := of_decide_eq_true hb104
         have hij : ¬ gi = gj := fun e9 => hb104 (congrArg Nat.cast e9)
         have hb90 := hij
         refine ws_seqN goeritz_n84 goeritz_n85 rfl rfl rfl ?_
         have hvi := Nat.lt_of_lt_of_eq hgi hvl.symm
         have hvj := Nat.lt_of_lt_of_eq hgj hvl.symm
         clear hx1 hx2 hf0 hf1 hf2 hf3 hs1 hs2 hI hJ hpl hb77 hb90
         have htl1 : gi < tb.length := by rw [htb, tbl_len]; exact hgi
         have htl2 : gi < (ga tb gi).length := by rw [htb, tbl_rlen _ hgi]; exact hgi
         have htl3 : gi < (ga tb gj).length := by rw [htb, tbl_rlen _ hgj]; exact hgi
         have htl4 : gj < tb.length := by rw [htb, tbl_len]; exact hgj
         have htl5 : gj < (ga tb gi).length := by rw [htb, tbl_rlen _ hgi]; exact hgj
         have htl6 : gj < (ga tb gj).length := by rw [htb, tbl_rlen _ hgj]; exact hgj
         refine ws_region rfl (wlm 0 1 rfl rfl rfl rfl rfl rfl rfl (wlm 1 2 rfl rfl rfl rfl rfl rfl rfl (wlo 2 3 rfl rfl rfl (wo_run rfl rfl (run_indexR (C := (cdV 25)) (i := 2) gi rfl rfl rfl sl30 S28 rfl (by first | rfl | omega) (by first | assumption | omega | (simp only [lens]; omega))) ?_))))
         refine wlo 3 4 rfl rfl rfl (wo_run rfl rfl (run_load1 rfl rfl Try.underlying25 rfl (S28.rowc (i := 2) (e := gi) (j := 0) rfl (by first | assumption | omega | (simp only [lens]; omega)) rfl rfl)) ?_)
         refine wlm 4 5 rfl rfl rfl rfl rfl rfl rfl (wlo 5 6 rfl rfl rfl (wo_run rfl rfl (run_indexT (C := cdInt) (vs := vs) (xss := tb) (i := 1) gi gj rfl rfl rfl rfl sl25 S28 rfl (by first | assumption | omega | (simp only [lens]; omega) | (rw [ga_set _ _ _ _ (by first | omega | (simp only [List.length_set]; omega)), if_pos rfl]; simp only [List.length_set]; omega)) (by first | rfl | omega) (by first | assumption | omega | (simp only [lens]; omega) | (rw [ga_set _ _ _ _ (by first | omega | (simp only [List.length_set]; omega)), if_pos rfl]; simp only [List.length_set]; omega))) ?_))
         refine wlo 6 7 rfl rfl rfl (wo_run rfl rfl (run_load1 rfl rfl Try.underlying3 rfl (S28.tabc (i := 1) (k := gi) (e := gj) (j := 0) rfl (by first | assumption | omega | (simp only [lens]; omega) | (rw [ga_set _ _ _ _ (by first | omega | (simp only [List.length_set]; omega)), if_pos rfl]; simp only [List.length_set]; omega)) (by first | assumption | omega | (simp only [lens]; omega) | (rw [ga_set _ _ _ _ (by first | omega | (simp only [List.length_set]; omega)), if_pos rfl]; simp only [List.length_set]; omega)) rfl rfl)) ?_)
         refine wlm 7 8 rfl rfl rfl rfl rfl rfl rfl (wlo 8 9 rfl rfl rfl (wo_run rfl rfl (run_subW rfl rfl rfl) (wlo 9 10 rfl rfl rfl (wo_run rfl rfl (run_indexT (C := cdInt) (vs := vs) (xss := tb) (i := 1) gi gj rfl rfl rfl rfl sl25 S28 rfl (by first | assumption | omega | (simp only [lens]; omega) | (rw [ga_set _ _ _ _ (by first | omega | (simp only [List.length_set]; omega)), if_pos rfl]; simp only [List.length_set]; omega)) (by first | rfl | omega) (by first | assumption | omega | (simp only [lens]; omega) | (rw [ga_set _ _ _ _ (by first | omega | (simp only [List.length_set]; omega)), if_pos rfl]; simp only [List.length_set]; omega))) ?_))))
         refine wlo 10 11 rfl rfl rfl (wo_storeT (C := cdInt) (vs := vs) (xss := tb) (i := 1) (k := gi) (e := gj) (j := 0) (us := [_]) (H' := [_, _, _, _]) (wr ((ga (ga tb gi) gj) - (-1))) rfl rfl S28 rfl (by first | assumption | omega | (simp only [lens]; omega) | (rw [ga_set _ _ _ _ (by first | omega | (simp only [List.length_set]; omega)), if_pos rfl]; simp only [List.length_set]; omega)) (by first | assumption | omega | (simp only [lens]; omega) | (rw [ga_set _ _ _ _ (by first | omega | (simp only [List.length_set]; omega)), if_pos rfl]; simp only [List.length_set]; omega)) rfl rfl rfl sz3 rfl rfl rfl rfl ?_)
         intro w27 S29; clear S28
         refine wl_end rfl (nmk [0, 1, 6, 10, 12, 66, 67, 68, 14, 15, 18, 19] rfl (nm_thn (ws_seqN goeritz_n86 goeritz_n87 rfl rfl rfl ?_)))
         obtain ⟨tq1, eq_1, htq1, heq_1, hsq1⟩ : ∃ t E, t = tbl (gm d sd) E ∧ E = upS (gE d sd c) gi gj (-1) ∧ tb.set gi ((ga tb gi).set gj (wr ((ga (ga tb gi) gj) - (-1)))) = t := ⟨_, _, rfl, rfl, by rw [htb]; exact tbl_upS (gE d sd c) hgi hgj⟩
         rw [hsq1] at S29; clear hsq1
         have htl7 : gi < tq1.length := by rw [htq1, tbl_len]; exact hgi
         have htl8 : gi < (ga tq1 gi).length := by rw [htq1, tbl_rlen _ hgi]; exact hgi
         have htl9 : gi < (ga tq1 gj).length := by rw [htq1, tbl_rlen _ hgj]; exact hgi
         have htl10 : gj < tq1.length := by rw [htq1, tbl_len]; exact hgj
         have htl11 : gj < (ga tq1 gi).length := by rw [htq1, tbl_rlen _ hgi]; exact hgj
         have htl12 : gj < (ga tq1 gj).length := by rw [htq1, tbl_rlen _ hgj]; exact hgj
         refine ws_region rfl (wlm 0 1 rfl rfl rfl rfl rfl rfl rfl (wlm 1 2 rfl rfl rfl rfl rfl rfl rfl (wlo 2 3 rfl rfl rfl (wo_run rfl rfl (run_indexR (C := (cdV 25)) (i := 2) gj rfl rfl rfl sl30 S29 rfl (by first | rfl | omega) (by first | assumption | omega | (simp only [lens]; omega))) ?_))))
         refine wlo 3 4 rfl rfl rfl (wo_run rfl rfl (run_load1 rfl rfl Try.underlying25 rfl (S29.rowc (i := 2) (e := gj) (j := 0) rfl (by first | assumption | omega | (simp only [lens]; omega)) rfl rfl)) ?_)
         refine wlm 4 5 rfl rfl rfl rfl rfl rfl rfl (wlo 5 6 rfl rfl rfl (wo_run rfl rfl (run_indexT (C := cdInt) (vs := vs) (xss := tq1) (i := 1) gj gi rfl rfl rfl rfl sl25 S29 rfl (by first | assumption | omega | (simp only [lens]; omega) | (rw [ga_set _ _ _ _ (by first | omega | (simp only [List.length_set]; omega)), if_pos rfl]; simp only [List.length_set]; omega)) (by first | rfl | omega) (by first | assumption | omega | (simp only [lens]; omega) | (rw [ga_set _ _ _ _ (by first | omega | (simp only [List.length_set]; omega)), if_pos rfl]; simp only [List.length_set]; omega))) ?_))
         refine wlo 6 7 rfl rfl rfl (wo_run rfl rfl (run_load1 rfl rfl Try.underlying3 rfl (S29.tabc (i := 1) (k := gj) (e := gi) (j := 0) rfl (by first | assumption | omega | (simp only [lens]; omega) | (rw [ga_set _ _ _ _ (by first | omega | (simp only [List.length_set]; omega)), if_pos rfl]; simp only [List.length_set]; omega)) (by first | assumption | omega | (simp only [lens]; omega) | (rw [ga_set _ _ _ _ (by first | omega | (simp only [List.length_set]; omega)), if_pos rfl]; simp only [List.length_set]; omega)) rfl rfl)) ?_)
         refine wlm 7 8 rfl rfl rfl rfl rfl rfl rfl (wlo 8 9 rfl rfl rfl (wo_run rfl rfl (run_subW rfl rfl rfl) (wlo 9 10 rfl rfl rfl (wo_run rfl rfl (run_indexT (C := cdInt) (vs := vs) (xss := tq1) (i := 1) gj gi rfl rfl rfl rfl sl25 S29 rfl (by first | assumption | omega | (simp only [lens]; omega) | (rw [ga_set _ _ _ _ (by first | omega | (simp only [List.length_set]; omega)), if_pos rfl]; simp only [List.length_set]; omega)) (by first | rfl | omega) (by first | assumption | omega | (simp only [lens]; omega) | (rw [ga_set _ _ _ _ (by first | omega | (simp only [List.length_set]; omega)), if_pos rfl]; simp only [List.length_set]; omega))) ?_))))
         refine wlo 10 11 rfl rfl rfl (wo_storeT (C := cdInt) (vs := vs) (xss := tq1) (i := 1) (k := gj) (e := gi) (j := 0) (us := [_]) (H' := [_, _, _, _]) (wr ((ga (ga tq1 gj) gi) - (-1))) rfl rfl S29 rfl (by first | assumption | omega | (simp only [lens]; omega) | (rw [ga_set _ _ _ _ (by first | omega | (simp only [List.length_set]; omega)), if_pos rfl]; simp only [List.length_set]; omega)) (by first | assumption | omega | (simp only [lens]; omega) | (rw [ga_set _ _ _ _ (by first | omega | (simp only [List.length_set]; omega)), if_pos rfl]; simp only [List.length_set]; omega)) rfl rfl rfl sz3 rfl rfl rfl rfl ?_)
         intro w28 S30; clear S29
         refine wl_end rfl (nmk [0, 1, 6, 10, 12, 66, 67, 68, 14, 15, 18, 19] rfl (nm_thn (ws_seqN goeritz_n88 goeritz_n89 rfl rfl rfl ?_)))
         obtain ⟨tq2, eq_2, htq2, heq_2, hsq2⟩ : ∃ t E, t = tbl (gm d sd) E ∧ E = upS eq_1 gj gi (-1) ∧ tq1.set gj ((ga tq1 gj).set gi (wr ((ga (ga tq1 gj) gi) - (-1)))) = t := ⟨_, _, rfl, rfl, by rw [htq1]; exact tbl_upS eq_1 hgj hgi⟩
         rw [hsq2] at S30; clear hsq2
         have htl13 : gi < tq2.length := by rw [htq2, tbl_len]; exact hgi
         have htl14 : gi < (ga tq2 gi).length := by rw [htq2, tbl_rlen _ hgi]; exact hgi
         have htl15 : gi < (ga tq2 gj).length := by rw [htq2, tbl_rlen _ hgj]; exact hgi
         have htl16 : gj < tq2.length := by rw [htq2, tbl_len]; exact hgj
         have htl17 : gj < (ga tq2 gi).length := by rw [htq2, tbl_rlen _ hgi]; exact hgj
         have htl18 : gj < (ga tq2 gj).length := by rw [htq2, tbl_rlen _ hgj]; exact hgj
         refine ws_region rfl (wlm 0 1 rfl rfl rfl rfl rfl rfl rfl (wlm 1 2 rfl rfl rfl rfl rfl rfl rfl (wlo 2 3 rfl rfl rfl (wo_run rfl rfl (run_indexR (C := (cdV 25)) (i := 2) gi rfl rfl rfl sl30 S30 rfl (by first | rfl | omega) (by first | assumption | omega | (simp only [lens]; omega))) ?_))))
         refine wlo 3 4 rfl rfl rfl (wo_run rfl rfl (run_load1 rfl rfl Try.underlying25 rfl (S30.rowc (i := 2) (e := gi) (j := 0) rfl (by first | assumption | omega | (simp only [lens]; omega)) rfl rfl)) ?_)
         refine wlm 4 5 rfl rfl rfl rfl rfl rfl rfl (wlo 5 6 rfl rfl rfl (wo_run rfl rfl (run_indexT (C := cdInt) (vs := vs) (xss := tq2) (i := 1) gi gi rfl rfl rfl rfl sl25 S30 rfl (by first | assumption | omega | (simp only [lens]; omega) | (rw [ga_set _ _ _ _ (by first | omega | (simp only [List.length_set]; omega)), if_pos rfl]; simp only [List.length_set]; omega)) (by first | rfl | omega) (by first | assumption | omega | (simp only [lens]; omega) | (rw [ga_set _ _ _ _ (by first | omega | (simp only [List.length_set]; omega)), if_pos rfl]; simp only [List.length_set]; omega))) ?_))
         refine wlo 6 7 rfl rfl rfl (wo_run rfl rfl (run_load1 rfl rfl Try.underlying3 rfl (S30.tabc (i := 1) (k := gi) (e := gi) (j := 0) rfl (by first | assumption | omega | (simp only [lens]; omega) | (rw [ga_set _ _ _ _ (by first | omega | (simp only [List.length_set]; omega)), if_pos rfl]; simp only [List.length_set]; omega)) (by first | assumption | omega | (simp only [lens]; omega) | (rw [ga_set _ _ _ _ (by first | omega | (simp only [List.length_set]; omega)), if_pos rfl]; simp only [List.length_set]; omega)) rfl rfl)) ?_)
         refine wlm 7 8 rfl rfl rfl rfl rfl rfl rfl (wlo 8 9 rfl rfl rfl (wo_run rfl rfl (run_addW rfl rfl rfl) (wlo 9 10 rfl rfl rfl (wo_run rfl rfl (run_indexT (C := cdInt) (vs := vs) (xss := tq2) (i := 1) gi gi rfl rfl rfl rfl sl25 S30 rfl (by first | assumption | omega | (simp only [lens]; omega) | (rw [ga_set _ _ _ _ (by first | omega | (simp only [List.length_set]; omega)), if_pos rfl]; simp only [List.length_set]; omega)) (by first | rfl | omega) (by first | assumption | omega | (simp only [lens]; omega) | (rw [ga_set _ _ _ _ (by first | omega | (simp only [List.length_set]; omega)), if_pos rfl]; simp only [List.length_set]; omega))) ?_))))
         refine wlo 10 11 rfl rfl rfl (wo_storeT (C := cdInt) (vs := vs) (xss := tq2) (i := 1) (k := gi) (e := gi) (j := 0) (us := [_]) (H' := [_, _, _, _]) (wr ((ga (ga tq2 gi) gi) + (-1))) rfl rfl S30 rfl (by first | assumption | omega | (simp only [lens]; omega) | (rw [ga_set _ _ _ _ (by first | omega | (simp only [List.length_set]; omega)), if_pos rfl]; simp only [List.length_set]; omega)) (by first | assumption | omega | (simp only [lens]; omega) | (rw [ga_set _ _ _ _ (by first | omega | (simp only [List.length_set]; omega)), if_pos rfl]; simp only [List.length_set]; omega)) rfl rfl rfl sz3 rfl rfl rfl rfl ?_)
         intro w29 S31; clear S30
         refine wl_end rfl (nmk [0, 1, 6, 10, 12, 66, 67, 68, 14, 15, 19] rfl (nm_thn ?_))
         obtain ⟨tq3, eq_3, htq3, heq_3, hsq3⟩ : ∃ t E, t = tbl (gm d sd) E ∧ E = upA eq_2 gi gi (-1) ∧ tq2.set gi ((ga tq2 gi).set gi (wr ((ga (ga tq2 gi) gi) + (-1)))) = t := ⟨_, _, rfl, rfl, by rw [htq2]; exact tbl_upA eq_2 hgi hgi⟩
         rw [hsq3] at S31; clear hsq3
         have htl19 : gi < tq3.length := by rw [htq3, tbl_len]; exact hgi
         have htl20 : gi < (ga tq3 gi).length := by rw [htq3, tbl_rlen _ hgi]; exact hgi
         have htl21 : gi < (ga tq3 gj).length := by rw [htq3, tbl_rlen _ hgj]; exact hgi
         have htl22 : gj < tq3.length := by rw [htq3, tbl_len]; exact hgj
         have htl23 : gj < (ga tq3 gi).length := by rw [htq3, tbl_rlen _ hgi]; exact hgj
         have htl24 : gj < (ga tq3 gj).length := by rw [htq3, tbl_rlen _ hgj]; exact hgj
         refine ws_region rfl (wlm 0 1 rfl rfl rfl rfl rfl rfl rfl (wlm 1 2 rfl rfl rfl rfl rfl rfl rfl (wlo 2 3 rfl rfl rfl (wo_run rfl rfl (run_indexR (C := (cdV 25)) (i := 2) gj rfl rfl rfl sl30 S31 rfl (by first | rfl | omega) (by first | assumption | omega | (simp only [lens]; omega))) ?_))))
         refine wlo 3 4 rfl rfl rfl (wo_run rfl rfl (run_load1 rfl rfl Try.underlying25 rfl (S31.rowc (i := 2) (e := gj) (j := 0) rfl (by first | assumption | omega | (simp only [lens]; omega)) rfl rfl)) ?_)
         refine wlm 4 5 rfl rfl rfl rfl rfl rfl rfl (wlo 5 6 rfl rfl rfl (wo_run rfl rfl (run_indexT (C := cdInt) (vs := vs) (xss := tq3) (i := 1) gj gj rfl rfl rfl rfl sl25 S31 rfl (by first | assumption | omega | (simp only [lens]; omega) | (rw [ga_set _ _ _ _ (by first | omega | (simp only [List.length_set]; omega)), if_pos rfl]; simp only [List.length_set]; omega)) (by first | rfl | omega) (by first | assumption | omega | (simp only [lens]; omega) | (rw [ga_set _ _ _ _ (by first | omega | (simp only [List.length_set]; omega)), if_pos rfl]; simp only [List.length_set]; omega))) ?_))
         refine wlo 6 7 rfl rfl rfl (wo_run rfl rfl (run_load1 rfl rfl Try.underlying3 rfl (S31.tabc (i := 1) (k := gj) (e := gj) (j := 0) rfl (by first | assumption | omega | (simp only [lens]; omega) | (rw [ga_set _ _ _ _ (by first | omega | (simp only [List.length_set]; omega)), if_pos rfl]; simp only [List.length_set]; omega)) (by first | assumption | omega | (simp only [lens]; omega) | (rw [ga_set _ _ _ _ (by first | omega | (simp only [List.length_set]; omega)), if_pos rfl]; simp only [List.length_set]; omega)) rfl rfl)) ?_)
         refine wlm 7 8 rfl rfl rfl rfl rfl rfl rfl (wlo 8 9 rfl rfl rfl (wo_run rfl rfl (run_addW rfl rfl rfl) (wlo 9 10 rfl rfl rfl (wo_run rfl rfl (run_indexT (C := cdInt) (vs := vs) (xss := tq3) (i := 1) gj gj rfl rfl rfl rfl sl25 S31 rfl (by first | assumption | omega | (simp only [lens]; omega) | (rw [ga_set _ _ _ _ (by first | omega | (simp only [List.length_set]; omega)), if_pos rfl]; simp only [List.length_set]; omega)) (by first | rfl | omega) (by first | assumption | omega | (simp only [lens]; omega) | (rw [ga_set _ _ _ _ (by first | omega | (simp only [List.length_set]; omega)), if_pos rfl]; simp only [List.length_set]; omega))) ?_))))
         refine wlo 10 11 rfl rfl rfl (wo_storeT (C := cdInt) (vs := vs) (xss := tq3) (i := 1) (k := gj) (e := gj) (j := 0) (us := [_]) (H' := [_, _, _, _]) (wr ((ga (ga tq3 gj) gj) + (-1))) rfl rfl S31 rfl (by first | assumption | omega | (simp only [lens]; omega) | (rw [ga_set _ _ _ _ (by first | omega | (simp only [List.length_set]; omega)), if_pos rfl]; simp only [List.length_set]; omega)) (by first | assumption | omega | (simp only [lens]; omega) | (rw [ga_set _ _ _ _ (by first | omega | (simp only [List.length_set]; omega)), if_pos rfl]; simp only [List.length_set]; omega)) rfl rfl rfl sz3 rfl rfl rfl rfl ?_)
         intro w30 S32; clear S31
         refine wl_end rfl (nmk [0, 1, 6, 10, 12, 66, 67, 68, 14, 15] rfl (nm_thn (ws_seqN goeritz_n90 goeritz_n91 rfl rfl rfl ?_)))
         obtain ⟨tq4, eq_4, htq4, heq_4, hsq4⟩ : ∃ t E, t = tbl (gm d sd) E ∧ E = upA eq_3 gj gj (-1) ∧ tq3.set gj ((ga tq3 gj).set gj (wr ((ga (ga tq3 gj) gj) + (-1)))) = t := ⟨_, _, rfl, rfl, by rw [htq3]; exact tbl_upA eq_3 hgj hgj⟩
         rw [hsq4] at S32; clear hsq4
         refine ws_region rfl (wlo 0 1 rfl rfl rfl (wo_run rfl rfl (run_fieldAddr rfl rfl Try.underlying55 rfl (ce4) (nf4)) (wlo 1 2 rfl rfl rfl (wo_run rfl rfl (run_load1 rfl rfl Try.underlying4 rfl (S32.boxc (i := 0) rfl rfl)) (wlm 2 3 rfl rfl rfl rfl rfl rfl rfl (wlo 3 4 rfl rfl rfl (wo_run rfl rfl (run_lss rfl rfl rfl) ?_)))))))
         refine wlo 4 5 rfl rfl rfl (wo_run rfl rfl (run_beq rfl rfl rfl Try.underlying4) (wl_end rfl (nmk [0, 1, 6, 10, 12, 66, 67, 68, 15, 149] rfl (nm_thn ?_))))
         refine ws_condN goeritz_n92 goeritz_n93 rfl rfl rfl rfl (fun hb149 => ?_) (fun hb149 => ?_)
         ·refine ws_region rfl (wlm 0 1 rfl rfl rfl rfl rfl rfl rfl (wlm 1 2 rfl rfl rfl rfl rfl rfl rfl (wlo 2 3 rfl rfl rfl (wo_run rfl rfl (run_addW rfl rfl rfl) (wla 3 4 rfl rfl rfl rfl rfl rfl rfl ?_)))))
          refine wl_end rfl (nm_blk (nmk [0, 1, 6, 10, 12, 66, 67, 68] rfl (nm_thn (ws_eq 12 (.int .i64 (gX d sd (c + 1))) rfl (int_eq (by rw [gX, hgw]; first | (rw [if_pos (by simpa using hb149)]; done) | (rw [if_neg (by simpa using hb149)]; done))) ?_))))
          refine ws_region rfl (wlo 0 1 rfl rfl rfl (wo_run rfl rfl (run_add rfl rfl rfl (by first | assumption | omega | (simp only [lens]; omega))) ?_))
          refine wlm 1 2 rfl rfl rfl rfl rfl rfl rfl (wl_end rfl (nm_lp ?_))
          intro ax_ hax_
          refine ⟨_, ?hq7m, ⟨c + 1, _, _, _, rfl, hax_.sub ⟨rfl, rfl, rfl, rfl, rfl, rfl, rfl, rfl, trivial⟩, S32.pick [1, 2, 3] [_, _, _] (by decide) ⟨rfl, rfl, rfl, trivial⟩, ?hq7f0, ?hq7f1, ?hq7f2⟩⟩
          case hq7f0 => omega
          case hq7f1 => assumption
          case hq7f2 => (rw [htq4, heq_4, heq_3, heq_2, heq_1, gE_ne (by rw [← hgi0, ← hgj0]; exact hij), hgw, ← hgi0, ← hgj0]; rfl)
          case hq7m => omega
         ·refine ws_skip rfl (nm_blk (nmk [0, 1, 6, 10, 12, 66, 67, 68] rfl (nm_thn (ws_eq 12 (.int .i64 (gX d sd (c + 1))) rfl (int_eq (by rw [gX, hgw]; first | (rw [if_pos (by simpa using hb149)]; done) | (rw [if_neg (by simpa using hb149)]; done))) ?_))))
          refine ws_region rfl (wlo 0 1 rfl rfl rfl (wo_run rfl rfl (run_add rfl rfl rfl (by first | assumption | omega | (simp only [lens]; omega))) ?_))
          refine wlm 1 2 rfl rfl rfl rfl rfl rfl rfl (wl_end rfl (nm_lp ?_))
          intro ax_ hax_
          refine ⟨_, ?hq8m, ⟨c + 1, _, _, _, rfl, hax_.sub ⟨rfl, rfl, rfl, rfl, rfl, rfl, rfl, rfl, trivial⟩, S32.pick [1, 2, 3] [_, _, _] (by decide) ⟨rfl, rfl, rfl, trivial⟩, ?hq8f0, ?hq8f1, ?hq8f2⟩⟩
          case hq8f0 => omega
          case hq8f1 => assumption
          case hq8f2 => (rw [htq4, heq_4, heq_3, heq_2, heq_1, gE_ne (by rw [← hgi0, ← hgj0]; exact hij), hgw, ← hgi0, ← hgj0]; rfl)
          case hq8m => omega
        ·replace hb104 := of_decide_eq_false hb104
         have hij : gi = gj := Int.ofNat.inj (Classical.not_not.1 hb104)
         refine ws_skip rfl (nmk [0, 1, 6, 10, 12, 66, 67, 68, 14, 15] rfl (nm_thn (ws_seqN goeritz_n90 goeritz_n91 rfl rfl rfl (ws_region rfl ?_))))
         refine wlo 0 1 rfl rfl rfl (wo_run rfl rfl (run_fieldAddr rfl rfl Try.underlying55 rfl (ce4) (nf4)) (wlo 1 2 rfl rfl rfl (wo_run rfl rfl (run_load1 rfl rfl Try.underlying4 rfl (S28.boxc (i := 0) rfl rfl)) (wlm 2 3 rfl rfl rfl rfl rfl rfl rfl (wlo 3 4 rfl rfl rfl (wo_run rfl rfl (run_lss rfl rfl rfl) (wlo 4 5 rfl rfl rfl (wo_run rfl rfl (run_beq rfl rfl rfl Try.underlying4) ?_))))))))
         refine wl_end rfl (nmk [0, 1, 6, 10, 12, 66, 67, 68, 15, 149] rfl (nm_thn ?_))
         refine ws_condN goeritz_n92 goeritz_n93 rfl rfl rfl rfl (fun hb149 => ?_) (fun hb149 => ?_)
         ·refine ws_region rfl (wlm 0 1 rfl rfl rfl rfl rfl rfl rfl (wlm 1 2 rfl rfl rfl rfl rfl rfl rfl (wlo 2 3 rfl rfl rfl (wo_run rfl rfl (run_addW rfl rfl rfl) (wla 3 4 rfl rfl rfl rfl rfl rfl rfl ?_)))))
          refine wl_end rfl (nm_blk (nmk [0, 1, 6, 10, 12, 66, 67, 68] rfl (nm_thn (ws_eq 12 (.int .i64 (gX d sd (c + 1))) rfl (int_eq (by rw [gX, hgw]; first | (rw [if_pos (by simpa using hb149)]; done) | (rw [if_neg (by simpa using hb149)]; done))) ?_))))
          refine ws_region rfl (wlo 0 1 rfl rfl rfl (wo_run rfl rfl (run_add rfl rfl rfl (by first | assumption | omega | (simp only [lens]; omega))) ?_))
          refine wlm 1 2 rfl rfl rfl rfl rfl rfl rfl (wl_end rfl (nm_lp ?_))
          intro ax_ hax_
          refine ⟨_, ?hq9m, ⟨c + 1, _, _, _, rfl, hax_.sub ⟨rfl, rfl, rfl, rfl, rfl, rfl, rfl, rfl, trivial⟩, S28.pick [1, 2, 3] [_, _, _] (by decide) ⟨rfl, rfl, rfl, trivial⟩, ?hq9f0, ?hq9f1, ?hq9f2⟩⟩
          case hq9f0 => omega
          case hq9f1 => assumption
          case hq9f2 => (rw [gE_eq (by rw [← hgi0, ← hgj0]; exact hij)]; exact htb)
          case hq9m => omega
         ·refine ws_skip rfl (nm_blk (nmk [0, 1, 6, 10, 12, 66, 67, 68] rfl (nm_thn (ws_eq 12 (.int .i64 (gX d sd (c + 1))) rfl (int_eq (by rw [gX, hgw]; first | (rw [if_pos (by simpa using hb149)]; done) | (rw [if_neg (by simpa using hb149)]; done))) ?_))))
          refine ws_region rfl (wlo 0 1 rfl rfl rfl (wo_run rfl rfl (run_add rfl rfl rfl (by first | assumption | omega | (simp only [lens]; omega))) ?_))
          refine wlm 1 2 rfl rfl rfl rfl rfl rfl rfl (wl_end rfl (nm_lp ?_))
          intro ax_ hax_
          refine ⟨_, ?hq10m, ⟨c + 1, _, _, _, rfl, hax_.sub ⟨rfl, rfl, rfl, rfl, rfl, rfl, rfl, rfl, trivial⟩, S28.pick [1, 2, 3] [_, _, _] (by decide) ⟨rfl, rfl, rfl, trivial⟩, ?hq10f0, ?hq10f1, ?hq10f2⟩⟩
          case hq10f0 => omega
          case hq10f1 => assumption
          case hq10f2 => (rw [gE_eq (by rw [← hgi0, ← hgj0]; exact hij)]; exact htb)
          case hq10m => omega
       ·replace hb87 := of_decide_eq_false hb87
        replace hb87 : ga (shL d) (fcJ d (4 * c + 1)) = sd := Classical.not_not.1 hb87
        rw [shL_ga hf1] at hb87
        have hb77 : ¬ shv d (fcJ d (4 * c + 0)) = sd := by omega
        obtain ⟨gi, hgi0⟩ : ∃ x, x = gI d sd c := ⟨_, rfl⟩
        obtain ⟨gj, hgj0⟩ : ∃ x, x = gJ d sd c := ⟨_, rfl⟩
        obtain ⟨hI, hJ, hgw, hs1, hs2, hgi, hgj⟩ := g_no hS h01 (by omega) hb77
        rw [← hgi0] at hI hgi
        rw [← hgj0] at hJ hgj
        have hx1 := numP_ga (d := d) (s := sd) (Nat.le_refl _) hf1 hs1
        have hx2 := numP_ga (d := d) (s := sd) (Nat.le_refl _) hf3 hs2
        clear hb87 har hb01
        refine ws_skip rfl (nmk [0, 1, 6, 10, 12, 66, 67, 68, 14, 15, 16, 17] rfl (nm_thn (ws_seqN goeritz_n76 goeritz_n77 rfl rfl rfl (ws_seqN goeritz_n78 goeritz_n79 rfl rfl rfl ?_))))
        refine ws_draw rfl (by kernel_rfl) S15 10 rfl ?_
        clear S15
        refine wap 0 9 rfl (by kernel_rfl) rfl rfl rfl (fun w31 => run_move rfl rfl) ?_
        refine wap 1 8 rfl (by kernel_rfl) rfl rfl rfl (fun w32 => run_move rfl rfl) ?_
        refine wat 2 7 rfl (by kernel_rfl) rfl rfl rfl (fun M13 N13 w33 hle16 S35 => .inl (run_indexR (C := cdInt) (i := 3) (fcJ d (4 * c + 1)) rfl rfl rfl sl25 S35.suf rfl (by first | rfl | omega) (by first | assumption | omega | (simp only [lens]; omega)))) ?_
        refine wat 3 6 rfl (by kernel_rfl) rfl rfl rfl (fun M14 N14 w34 hle17 S36 => .inl (run_load1 rfl rfl Try.underlying3 rfl (S36.suf.rowc (i := 3) (e := fcJ d (4 * c + 1)) (j := 0) rfl (by first | assumption | omega | (simp only [lens]; omega)) rfl rfl))) ?_
        refine wap 4 5 rfl (by kernel_rfl) rfl rfl rfl (fun w35 => run_move rfl rfl) ?_
        refine wap 5 4 rfl (by kernel_rfl) rfl rfl rfl (fun w36 => run_move rfl rfl) ?_
        refine wat 6 3 rfl (by kernel_rfl) rfl rfl rfl (fun M17 N17 w37 hle20 S39 => .inl (run_indexR (C := cdInt) (i := 3) (fcJ d (4 * c + 3)) rfl rfl rfl sl25 S39.suf rfl (by first | rfl | omega) (by first | assumption | omega | (simp only [lens]; omega)))) ?_
        refine wat 7 2 rfl (by kernel_rfl) rfl rfl rfl (fun M18 N18 w38 hle21 S40 => .inl (run_load1 rfl rfl Try.underlying3 rfl (S40.suf.rowc (i := 3) (e := fcJ d (4 * c + 3)) (j := 0) rfl (by first | assumption | omega | (simp only [lens]; omega)) rfl rfl))) ?_
        refine wap 8 1 rfl (by kernel_rfl) rfl rfl rfl (fun w39 => run_assign rfl rfl) ?_
        refine wap 9 0 rfl (by kernel_rfl) rfl rfl rfl (fun w40 => run_assign rfl rfl) ?_
        refine wa_end (by kernel_rfl) (fun w41 S43 => ?_)
        refine nmk [0, 1, 6, 10, 12, 66, 67, 68, 14, 15, 18, 19] rfl (nm_thn (ws_seqN goeritz_n80 goeritz_n81 rfl rfl rfl (ws_eq 18 (.int .i64 ((gi : Nat) : Int)) rfl (int_eq (by rw [hx1, hI])) ?_)))
        refine ws_eq 19 (.int .i64 ((gj : Nat) : Int)) rfl (int_eq (by rw [hx2, hJ])) ?_
        refine ws_region rfl (wlm 0 1 rfl rfl rfl rfl rfl rfl rfl (wlm 1 2 rfl rfl rfl rfl rfl rfl rfl (wlo 2 3 rfl rfl rfl (wo_run rfl rfl (run_neq rfl rfl rfl) (wl_end rfl ?_)))))
        refine nmk [0, 1, 6, 10, 12, 66, 67, 68, 14, 15, 18, 19, 104] rfl (nm_thn ?_)
        refine ws_condN goeritz_n82 goeritz_n83 rfl rfl rfl rfl (fun hb104 => ?_) (fun hb104 => ?_)
        ·replace hb104 := of_decide_eq_true hb104
         have hij : ¬ gi = gj := fun e9 => hb104 (congrArg Nat.cast e9)
         have hb90 := hij
         refine ws_seqN goeritz_n84 goeritz_n85 rfl rfl rfl ?_
         have hvi := Nat.lt_of_lt_of_eq hgi hvl.symm
         have hvj := Nat.lt_of_lt_of_eq hgj hvl.symm
         clear hx1 hx2 hf0 hf1 hf2 hf3 hs1 hs2 hI hJ hpl hb77 hb90
         have htl25 : gi < tb.length := by rw [htb, tbl_len]; exact hgi
         have htl26 : gi < (ga tb gi).length := by rw [htb, tbl_rlen _ hgi]; exact hgi
         have htl27 : gi < (ga tb gj).length := by rw [htb, tbl_rlen _ hgj]; exact hgi
         have htl28 : gj < tb.length := by rw [htb, tbl_len]; exact hgj
         have htl29 : gj < (ga tb gi).length := by rw [htb, tbl_rlen _ hgi]; exact hgj
         have htl30 : gj < (ga tb gj).length := by rw [htb, tbl_rlen _ hgj]; exact hgj
         refine ws_region rfl (wlm 0 1 rfl rfl rfl rfl rfl rfl rfl (wlm 1 2 rfl rfl rfl rfl rfl rfl rfl (wlo 2 3 rfl rfl rfl (wo_run rfl rfl (run_indexR (C := (cdV 25)) (i := 2) gi rfl rfl rfl sl30 S43 rfl (by first | rfl | omega) (by first | assumption | omega | (simp only [lens]; omega))) ?_))))
         refine wlo 3 4 rfl rfl rfl (wo_run rfl rfl (run_load1 rfl rfl Try.underlying25 rfl (S43.rowc (i := 2) (e := gi) (j := 0) rfl (by first | assumption | omega | (simp only [lens]; omega)) rfl rfl)) ?_)
         refine wlm 4 5 rfl rfl rfl rfl rfl rfl rfl (wlo 5 6 rfl rfl rfl (wo_run rfl rfl (run_indexT (C := cdInt) (vs := vs) (xss := tb) (i := 1) gi gj rfl rfl rfl rfl sl25 S43 rfl (by first | assumption | omega | (simp only [lens]; omega) | (rw [ga_set _ _ _ _ (by first | omega | (simp only [List.length_set]; omega)), if_pos rfl]; simp only [List.length_set]; omega)) (by first | rfl | omega) (by first | assumption | omega | (simp only [lens]; omega) | (rw [ga_set _ _ _ _ (by first | omega | (simp only [List.length_set]; omega)), if_pos rfl]; simp only [List.length_set]; omega))) ?_))
         refine wlo 6 7 rfl rfl rfl (wo_run rfl rfl (run_load1 rfl rfl Try.underlying3 rfl (S43.tabc (i := 1) (k := gi) (e := gj) (j := 0) rfl (by first | assumption | omega | (simp only [lens]; omega) | (rw [ga_set _ _ _ _ (by first | omega | (simp only [List.length_set]; omega)), if_pos rfl]; simp only [List.length_set]; omega)) (by first | assumption | omega | (simp only [lens]; omega) | (rw [ga_set _ _ _ _ (by first | omega | (simp only [List.length_set]; omega)), if_pos rfl]; simp only [List.length_set]; omega)) rfl rfl)) ?_)
         refine wlm 7 8 rfl rfl rfl rfl rfl rfl rfl (wlo 8 9 rfl rfl rfl (wo_run rfl rfl (run_subW rfl rfl rfl) (wlo 9 10 rfl rfl rfl (wo_run rfl rfl (run_indexT (C := cdInt) (vs := vs) (xss := tb) (i := 1) gi gj rfl rfl rfl rfl sl25 S43 rfl (by first | assumption | omega | (simp only [lens]; omega) | (rw [ga_set _ _ _ _ (by first | omega | (simp only [List.length_set]; omega)), if_pos rfl]; simp only [List.length_set]; omega)) (by first | rfl | omega) (by first | assumption | omega | (simp only [lens]; omega) | (rw [ga_set _ _ _ _ (by first | omega | (simp only [List.length_set]; omega)), if_pos rfl]; simp only [List.length_set]; omega))) ?_))))
         refine wlo 10 11 rfl rfl rfl (wo_storeT (C := cdInt) (vs := vs) (xss := tb) (i := 1) (k := gi) (e := gj) (j := 0) (us := [_]) (H' := [_, _, _, _]) (wr ((ga (ga tb gi) gj) - 1)) rfl rfl S43 rfl (by first | assumption | omega | (simp only [lens]; omega) | (rw [ga_set _ _ _ _ (by first | omega | (simp only [List.length_set]; omega)), if_pos rfl]; simp only [List.length_set]; omega)) (by first | assumption | omega | (simp only [lens]; omega) | (rw [ga_set _ _ _ _ (by first | omega | (simp only [List.length_set]; omega)), if_pos rfl]; simp only [List.length_set]; omega)) rfl rfl rfl sz3 rfl rfl rfl rfl ?_)
         intro w42 S44; clear S43
         refine wl_end rfl (nmk [0, 1, 6, 10, 12, 66, 67, 68, 14, 15, 18, 19] rfl (nm_thn (ws_seqN goeritz_n86 goeritz_n87 rfl rfl rfl ?_)))
         obtain ⟨tq5, eq_5, htq5, heq_5, hsq5⟩ : ∃ t E, t = tbl (gm d sd) E ∧ E = upS (gE d sd c) gi gj 1 ∧ tb.set gi ((ga tb gi).set gj (wr ((ga (ga tb gi) gj) - 1))) = t := ⟨_, _, rfl, rfl, by rw [htb]; exact tbl_upS (gE d sd c) hgi hgj⟩
         rw [hsq5] at S44; clear hsq5
         have htl31 : gi < tq5.length := by rw [htq5, tbl_len]; exact hgi
         have htl32 : gi < (ga tq5 gi).length := by rw [htq5, tbl_rlen _ hgi]; exact hgi
         have htl33 : gi < (ga tq5 gj).length := by rw [htq5, tbl_rlen _ hgj]; exact hgi
         have htl34 : gj < tq5.length := by rw [htq5, tbl_len]; exact hgj
         have htl35 : gj < (ga tq5 gi).length := by rw [htq5, tbl_rlen _ hgi]; exact hgj
         have htl36 : gj < (ga tq5 gj).length := by rw [htq5, tbl_rlen _ hgj]; exact hgj
         refine ws_region rfl (wlm 0 1 rfl rfl rfl rfl rfl rfl rfl (wlm 1 2 rfl rfl rfl rfl rfl rfl rfl (wlo 2 3 rfl rfl rfl (wo_run rfl rfl (run_indexR (C := (cdV 25)) (i := 2) gj rfl rfl rfl sl30 S44 rfl (by first | rfl | omega) (by first | assumption | omega | (simp only [lens]; omega))) ?_))))
         refine wlo 3 4 rfl rfl rfl (wo_run rfl rfl (run_load1 rfl rfl Try.underlying25 rfl (S44.rowc (i := 2) (e := gj) (j := 0) rfl (by first | assumption | omega | (simp only [lens]; omega)) rfl rfl)) ?_)
         refine wlm 4 5 rfl rfl rfl rfl rfl rfl rfl (wlo 5 6 rfl rfl rfl (wo_run rfl rfl (run_indexT (C := cdInt) (vs := vs) (xss := tq5) (i := 1) gj gi rfl rfl rfl rfl sl25 S44 rfl (by first | assumption | omega | (simp only [lens]; omega) | (rw [ga_set _ _ _ _ (by first | omega | (simp only [List.length_set]; omega)), if_pos rfl]; simp only [List.length_set]; omega)) (by first | rfl | omega) (by first | assumption | omega | (simp only [lens]; omega) | (rw [ga_set _ _ _ _ (by first | omega | (simp only [List.length_set]; omega)), if_pos rfl]; simp only [List.length_set]; omega))) ?_))
         refine wlo 6 7 rfl rfl rfl (wo_run rfl rfl (run_load1 rfl rfl Try.underlying3 rfl (S44.tabc (i := 1) (k := gj) (e := gi) (j := 0) rfl (by first | assumption | omega | (simp only [lens]; omega) | (rw [ga_set _ _ _ _ (by first | omega | (simp only [List.length_set]; omega)), if_pos rfl]; simp only [List.length_set]; omega)) (by first | assumption | omega | (simp only [lens]; omega) | (rw [ga_set _ _ _ _ (by first | omega | (simp only [List.length_set]; omega)), if_pos rfl]; simp only [List.length_set]; omega)) rfl rfl)) ?_)
         refine wlm 7 8 rfl rfl rfl rfl rfl rfl rfl (wlo 8 9 rfl rfl rfl (wo_run rfl rfl (run_subW rfl rfl rfl) (wlo 9 10 rfl rfl rfl (wo_run rfl rfl (run_indexT (C := cdInt) (vs := vs) (xss := tq5) (i := 1) gj gi rfl rfl rfl rfl sl25 S44 rfl (by first | assumption | omega | (simp only [lens]; omega) | (rw [ga_set _ _ _ _ (by first | omega | (simp only [List.length_set]; omega)), if_pos rfl]; simp only [List.length_set]; omega)) (by first | rfl | omega) (by first | assumption | omega | (simp only [lens]; omega) | (rw [ga_set _ _ _ _ (by first | omega | (simp only [List.length_set]; omega)), if_pos rfl]; simp only [List.length_set]; omega))) ?_))))
         refine wlo 10 11 rfl rfl rfl (wo_storeT (C := cdInt) (vs := vs) (xss := tq5) (i := 1) (k := gj) (e := gi) (j := 0) (us := [_]) (H' := [_, _, _, _]) (wr ((ga (ga tq5 gj) gi) - 1)) rfl rfl S44 rfl (by first | assumption | omega | (simp only [lens]; omega) | (rw [ga_set _ _ _ _ (by first | omega | (simp only [List.length_set]; omega)), if_pos rfl]; simp only [List.length_set]; omega)) (by first | assumption | omega | (simp only [lens]; omega) | (rw [ga_set _ _ _ _ (by first | omega | (simp only [List.length_set]; omega)), if_pos rfl]; simp only [List.length_set]; omega)) rfl rfl rfl sz3 rfl rfl rfl rfl ?_)
         intro w43 S45; clear S44
         refine wl_end rfl (nmk [0, 1, 6, 10, 12, 66, 67, 68, 14, 15, 18, 19] rfl (nm_thn (ws_seqN goeritz_n88 goeritz_n89 rfl rfl rfl ?_)))
         obtain ⟨tq6, eq_6, htq6, heq_6, hsq6⟩ : ∃ t E, t = tbl (gm d sd) E ∧ E = upS eq_5 gj gi 1 ∧ tq5.set gj ((ga tq5 gj).set gi (wr ((ga (ga tq5 gj) gi) - 1))) = t := ⟨_, _, rfl, rfl, by rw [htq5]; exact tbl_upS eq_5 hgj hgi⟩
         rw [hsq6] at S45; clear hsq6
         have htl37 : gi < tq6.length := by rw [htq6, tbl_len]; exact hgi
         have htl38 : gi < (ga tq6 gi).length := by rw [htq6, tbl_rlen _ hgi]; exact hgi
         have htl39 : gi < (ga tq6 gj).length := by rw [htq6, tbl_rlen _ hgj]; exact hgi
         have htl40 : gj < tq6.length := by rw [htq6, tbl_len]; exact hgj
         have htl41 : gj < (ga tq6 gi).length := by rw [htq6, tbl_rlen _ hgi]; exact hgj
         have htl42 : gj < (ga tq6 gj).length := by rw [htq6, tbl_rlen _ hgj]; exact hgj
         refine ws_region rfl (wlm 0 1 rfl rfl rfl rfl rfl rfl rfl (wlm 1 2 rfl rfl rfl rfl rfl rfl rfl (wlo 2 3 rfl rfl rfl (wo_run rfl rfl (run_indexR (C := (cdV 25)) (i := 2) gi rfl rfl rfl sl30 S45 rfl (by first | rfl | omega) (by first | assumption | omega | (simp only [lens]; omega))) ?_))))
         refine wlo 3 4 rfl rfl rfl (wo_run rfl rfl (run_load1 rfl rfl Try.underlying25 rfl (S45.rowc (i := 2) (e := gi) (j := 0) rfl (by first | assumption | omega | (simp only [lens]; omega)) rfl rfl)) ?_)
         refine wlm 4 5 rfl rfl rfl rfl rfl rfl rfl (wlo 5 6 rfl rfl rfl (wo_run rfl rfl (run_indexT (C := cdInt) (vs := vs) (xss := tq6) (i := 1) gi gi rfl rfl rfl rfl sl25 S45 rfl (by first | assumption | omega | (simp only [lens]; omega) | (rw [ga_set _ _ _ _ (by first | omega | (simp only [List.length_set]; omega)), if_pos rfl]; simp only [List.length_set]; omega)) (by first | rfl | omega) (by first | assumption | omega | (simp only [lens]; omega) | (rw [ga_set _ _ _ _ (by first | omega | (simp only [List.length_set]; omega)), if_pos rfl]; simp only [List.length_set]; omega))) ?_))
         refine wlo 6 7 rfl rfl rfl (wo_run rfl rfl (run_load1 rfl rfl Try.underlying3 rfl (S45.tabc (i := 1) (k := gi) (e := gi) (j := 0) rfl (by first | assumption | omega | (simp only [lens]; omega) | (rw [ga_set _ _ _ _ (by first | omega | (simp only [List.length_set]; omega)), if_pos rfl]; simp only [List.length_set]; omega)) (by first | assumption | omega | (simp only [lens]; omega) | (rw [ga_set _ _ _ _ (by first | omega | (simp only [List.length_set]; omega)), if_pos rfl]; simp only [List.length_set]; omega)) rfl rfl)) ?_)
         refine wlm 7 8 rfl rfl rfl rfl rfl rfl rfl (wlo 8 9 rfl rfl rfl (wo_run rfl rfl (run_addW rfl rfl rfl) (wlo 9 10 rfl rfl rfl (wo_run rfl rfl (run_indexT (C := cdInt) (vs := vs) (xss := tq6) (i := 1) gi gi rfl rfl rfl rfl sl25 S45 rfl (by first | assumption | omega | (simp only [lens]; omega) | (rw [ga_set _ _ _ _ (by first | omega | (simp only [List.length_set]; omega)), if_pos rfl]; simp only [List.length_set]; omega)) (by first | rfl | omega) (by first | assumption | omega | (simp only [lens]; omega) | (rw [ga_set _ _ _ _ (by first | omega | (simp only [List.length_set]; omega)), if_pos rfl]; simp only [List.length_set]; omega))) ?_))))
         refine wlo 10 11 rfl rfl rfl (wo_storeT (C := cdInt) (vs := vs) (xss := tq6) (i := 1) (k := gi) (e := gi) (j := 0) (us := [_]) (H' := [_, _, _, _]) (wr ((ga (ga tq6 gi) gi) + 1)) rfl rfl S45 rfl (by first | assumption | omega | (simp only [lens]; omega) | (rw [ga_set _ _ _ _ (by first | omega | (simp only [List.length_set]; omega)), if_pos rfl]; simp only [List.length_set]; omega)) (by first | assumption | omega | (simp only [lens]; omega) | (rw [ga_set _ _ _ _ (by first | omega | (simp only [List.length_set]; omega)), if_pos rfl]; simp only [List.length_set]; omega)) rfl rfl rfl sz3 rfl rfl rfl rfl ?_)
         intro w44 S46; clear S45
         refine wl_end rfl (nmk [0, 1, 6, 10, 12, 66, 67, 68, 14, 15, 19] rfl (nm_thn ?_))
         obtain ⟨tq7, eq_7, htq7, heq_7, hsq7⟩ : ∃ t E, t = tbl (gm d sd) E ∧ E = upA eq_6 gi gi 1 ∧ tq6.set gi ((ga tq6 gi).set gi (wr ((ga (ga tq6 gi) gi) + 1))) = t := ⟨_, _, rfl, rfl, by rw [htq6]; exact tbl_upA eq_6 hgi hgi⟩
         rw [hsq7] at S46; clear hsq7
         have htl43 : gi < tq7.length := by rw [htq7, tbl_len]; exact hgi
         have htl44 : gi < (ga tq7 gi).length := by rw [htq7, tbl_rlen _ hgi]; exact hgi
         have htl45 : gi < (ga tq7 gj).length := by rw [htq7, tbl_rlen _ hgj]; exact hgi
         have htl46 : gj < tq7.length := by rw [htq7, tbl_len]; exact hgj
         have htl47 : gj < (ga tq7 gi).length := by rw [htq7, tbl_rlen _ hgi]; exact hgj
         have htl48 : gj < (ga tq7 gj).length := by rw [htq7, tbl_rlen _ hgj]; exact hgj
         refine ws_region rfl (wlm 0 1 rfl rfl rfl rfl rfl rfl rfl (wlm 1 2 rfl rfl rfl rfl rfl rfl rfl (wlo 2 3 rfl rfl rfl (wo_run rfl rfl (run_indexR (C := (cdV 25)) (i := 2) gj rfl rfl rfl sl30 S46 rfl (by first | rfl | omega) (by first | assumption | omega | (simp only [lens]; omega))) ?_))))
         refine wlo 3 4 rfl rfl rfl (wo_run rfl rfl (run_load1 rfl rfl Try.underlying25 rfl (S46.rowc (i := 2) (e := gj) (j := 0) rfl (by first | assumption | omega | (simp only [lens]; omega)) rfl rfl)) ?_)
         refine wlm 4 5 rfl rfl rfl rfl rfl rfl rfl (wlo 5 6 rfl rfl rfl (wo_run rfl rfl (run_indexT (C := cdInt) (vs := vs) (xss := tq7) (i := 1) gj gj rfl rfl rfl rfl sl25 S46 rfl (by first | assumption | omega | (simp only [lens]; omega) | (rw [ga_set _ _ _ _ (by first | omega | (simp only [List.length_set]; omega)), if_pos rfl]; simp only [List.length_set]; omega)) (by first | rfl | omega) (by first | assumption | omega | (simp only [lens]; omega) | (rw [ga_set _ _ _ _ (by first | omega | (simp only [List.length_set]; omega)), if_pos rfl]; simp only [List.length_set]; omega))) ?_))
         refine wlo 6 7 rfl rfl rfl (wo_run rfl rfl (run_load1 rfl rfl Try.underlying3 rfl (S46.tabc (i := 1) (k := gj) (e := gj) (j := 0) rfl (by first | assumption | omega | (simp only [lens]; omega) | (rw [ga_set _ _ _ _ (by first | omega | (simp only [List.length_set]; omega)), if_pos rfl]; simp only [List.length_set]; omega)) (by first | assumption | omega | (simp only [lens]; omega) | (rw [ga_set _ _ _ _ (by first | omega | (simp only [List.length_set]; omega)), if_pos rfl]; simp only [List.length_set]; omega)) rfl rfl)) ?_)
         refine wlm 7 8 rfl rfl rfl rfl rfl rfl rfl (wlo 8 9 rfl rfl rfl (wo_run rfl rfl (run_addW rfl rfl rfl) (wlo 9 10 rfl rfl rfl (wo_run rfl rfl (run_indexT (C := cdInt) (vs := vs) (xss := tq7) (i := 1) gj gj rfl rfl rfl rfl sl25 S46 rfl (by first | assumption | omega | (simp only [lens]; omega) | (rw [ga_set _ _ _ _ (by first | omega | (simp only [List.length_set]; omega)), if_pos rfl]; simp only [List.length_set]; omega)) (by first | rfl | omega) (by first | assumption | omega | (simp only [lens]; omega) | (rw [ga_set _ _ _ _ (by first | omega | (simp only [List.length_set]; omega)), if_pos rfl]; simp only [List.length_set]; omega))) ?_))))
         refine wlo 10 11 rfl rfl rfl (wo_storeT (C := cdInt) (vs := vs) (xss := tq7) (i := 1) (k := gj) (e := gj) (j := 0) (us := [_]) (H' := [_, _, _, _]) (wr ((ga (ga tq7 gj) gj) + 1)) rfl rfl S46 rfl (by first | assumption | omega | (simp only [lens]; omega) | (rw [ga_set _ _ _ _ (by first | omega | (simp only [List.length_set]; omega)), if_pos rfl]; simp only [List.length_set]; omega)) (by first | assumption | omega | (simp only [lens]; omega) | (rw [ga_set _ _ _ _ (by first | omega | (simp only [List.length_set]; omega)), if_pos rfl]; simp only [List.length_set]; omega)) rfl rfl rfl sz3 rfl rfl rfl rfl ?_)
         intro w45 S47; clear S46
         refine wl_end rfl (nmk [0, 1, 6, 10, 12, 66, 67, 68, 14, 15] rfl (nm_thn (ws_seqN goeritz_n90 goeritz_n91 rfl rfl rfl ?_)))
         obtain ⟨tq8, eq_8, htq8, heq_8, hsq8⟩ : ∃ t E, t = tbl (gm d sd) E ∧ E = upA eq_7 gj gj 1 ∧ tq7.set gj ((ga tq7 gj).set gj (wr ((ga (ga tq7 gj) gj) + 1))) = t := ⟨_, _, rfl, rfl, by rw [htq7]; exact tbl_upA eq_7 hgj hgj⟩
         rw [hsq8] at S47; clear hsq8
         refine ws_region rfl (wlo 0 1 rfl rfl rfl (wo_run rfl rfl (run_fieldAddr rfl rfl Try.underlying55 rfl (ce4) (nf4)) (wlo 1 2 rfl rfl rfl (wo_run rfl rfl (run_load1 rfl rfl Try.underlying4 rfl (S47.boxc (i := 0) rfl rfl)) (wlm 2 3 rfl rfl rfl rfl rfl rfl rfl (wlo 3 4 rfl rfl rfl (wo_run rfl rfl (run_lss rfl rfl rfl) ?_)))))))
         refine wlo 4 5 rfl rfl rfl (wo_run rfl rfl (run_beq rfl rfl rfl Try.underlying4) (wl_end rfl (nmk [0, 1, 6, 10, 12, 66, 67, 68, 15, 149] rfl (nm_thn ?_))))
         refine ws_condN goeritz_n92 goeritz_n93 rfl rfl rfl rfl (fun hb149 => ?_) (fun hb149 => ?_)
         ·refine ws_region rfl (wlm 0 1 rfl rfl rfl rfl rfl rfl rfl (wlm 1 2 rfl rfl rfl rfl rfl rfl rfl (wlo 2 3 rfl rfl rfl (wo_run rfl rfl (run_addW rfl rfl rfl) (wla 3 4 rfl rfl rfl rfl rfl rfl rfl ?_)))))
          refine wl_end rfl (nm_blk (nmk [0, 1, 6, 10, 12, 66, 67, 68] rfl (nm_thn (ws_eq 12 (.int .i64 (gX d sd (c + 1))) rfl (int_eq (by rw [gX, hgw]; first | (rw [if_pos (by simpa using hb149)]; done) | (rw [if_neg (by simpa using hb149)]; done))) ?_))))
          refine ws_region rfl (wlo 0 1 rfl rfl rfl (wo_run rfl rfl (run_add rfl rfl rfl (by first | assumption | omega | (simp only [lens]; omega))) ?_))
          refine wlm 1 2 rfl rfl rfl rfl rfl rfl rfl (wl_end rfl (nm_lp ?_))
          intro ax_ hax_
          refine ⟨_, ?hq11m, ⟨c + 1, _, _, _, rfl, hax_.sub ⟨rfl, rfl, rfl, rfl, rfl, rfl, rfl, rfl, trivial⟩, S47.pick [1, 2, 3] [_, _, _] (by decide) ⟨rfl, rfl, rfl, trivial⟩, ?hq11f0, ?hq11f1, ?hq11f2⟩⟩
          case hq11f0 => omega
          case hq11f1 => assumption
          case hq11f2 => (rw [htq8, heq_8, heq_7, heq_6, heq_5, gE_ne (by rw [← hgi0, ← hgj0]; exact hij), hgw, ← hgi0, ← hgj0]; rfl)
          case hq11m => omega
         ·refine ws_skip rfl (nm_blk (nmk [0, 1, 6, 10, 12, 66, 67, 68] rfl (nm_thn (ws_eq 12 (.int .i64 (gX d sd (c + 1))) rfl (int_eq (by rw [gX, hgw]; first | (rw [if_pos (by simpa using hb149)]; done) | (rw [if_neg (by simpa using hb149)]; done))) ?_))))
          refine ws_region rfl (wlo 0 1 rfl rfl rfl (wo_run rfl rfl (run_add rfl rfl rfl (by first | assumption | omega | (simp only [lens]; omega))) ?_))
          refine wlm 1 2 rfl rfl rfl rfl rfl rfl rfl (wl_end rfl (nm_lp ?_))
          intro ax_ hax_
          refine ⟨_, ?hq12m, ⟨c + 1, _, _, _, rfl, hax_.sub ⟨rfl, rfl, rfl, rfl, rfl, rfl, rfl, rfl, trivial⟩, S47.pick [1, 2, 3] [_, _, _] (by decide) ⟨rfl, rfl, rfl, trivial⟩, ?hq12f0, ?hq12f1, ?hq12f2⟩⟩
          case hq12f0 => omega
          case hq12f1 => assumption
          case hq12f2 => (rw [htq8, heq_8, heq_7, heq_6, heq_5, gE_ne (by rw [← hgi0, ← hgj0]; exact hij), hgw, ← hgi0, ← hgj0]; rfl)
          case hq12m => omega
        ·replace hb104 := of_decide_eq_false hb104
         have hij : gi = gj := Int.ofNat.inj (Classical.not_not.1 hb104)
         refine ws_skip rfl (nmk [0, 1, 6, 10, 12, 66, 67, 68, 14, 15] rfl (nm_thn (ws_seqN goeritz_n90 goeritz_n91 rfl rfl rfl (ws_region rfl ?_))))
         refine wlo 0 1 rfl rfl rfl (wo_run rfl rfl (run_fieldAddr rfl rfl Try.underlying55 rfl (ce4) (nf4)) (wlo 1 2 rfl rfl rfl (wo_run rfl rfl (run_load1 rfl rfl Try.underlying4 rfl (S43.boxc (i := 0) rfl rfl)) (wlm 2 3 rfl rfl rfl rfl rfl rfl rfl (wlo 3 4 rfl rfl rfl (wo_run rfl rfl (run_lss rfl rfl rfl) (wlo 4 5 rfl rfl rfl (wo_run rfl rfl (run_beq rfl rfl rfl Try.underlying4) ?_))))))))
         refine wl_end rfl (nmk [0, 1, 6, 10, 12, 66, 67, 68, 15, 149] rfl (nm_thn ?_))
         refine ws_condN goeritz_n92 goeritz_n93 rfl rfl rfl rfl (fun hb149 => ?_) (fun hb149 => ?_)
         ·refine ws_region rfl (wlm 0 1 rfl rfl rfl rfl rfl rfl rfl (wlm 1 2 rfl rfl rfl rfl rfl rfl rfl (wlo 2 3 rfl rfl rfl (wo_run rfl rfl (run_addW rfl rfl rfl) (wla 3 4 rfl rfl rfl rfl rfl rfl rfl ?_)))))
          refine wl_end rfl (nm_blk (nmk [0, 1, 6, 10, 12, 66, 67, 68] rfl (nm_thn (ws_eq 12 (.int .i64 (gX d sd (c + 1))) rfl (int_eq (by rw [gX, hgw]; first | (rw [if_pos (by simpa using hb149)]; done) | (rw [if_neg (by simpa using hb149)]; done))) ?_))))
          refine ws_region rfl (wlo 0 1 rfl rfl rfl (wo_run rfl rfl (run_add rfl rfl rfl (by first | assumption | omega | (simp only [lens]; omega))) ?_))
          refine wlm 1 2 rfl rfl rfl rfl rfl rfl rfl (wl_end rfl (nm_lp ?_))
          intro ax_ hax_
          refine ⟨_, ?hq13m, ⟨c + 1, _, _, _, rfl, hax_.sub ⟨rfl, rfl, rfl, rfl, rfl, rfl, rfl, rfl, trivial⟩, S43.pick [1, 2, 3] [_, _, _] (by decide) ⟨rfl, rfl, rfl, trivial⟩, ?hq13f0, ?hq13f1, ?hq13f2⟩⟩
          case hq13f0 => omega
          case hq13f1 => assumption
          case hq13f2 => (rw [gE_eq (by rw [← hgi0, ← hgj0]; exact hij)]; exact htb)
          case hq13m => omega
         ·refine ws_skip rfl (nm_blk (nmk [0, 1, 6, 10, 12, 66, 67, 68] rfl (nm_thn (ws_eq 12 (.int .i64 (gX d sd (c + 1))) rfl (int_eq (by rw [gX, hgw]; first | (rw [if_pos (by simpa using hb149)]; done) | (rw [if_neg (by simpa using hb149)]; done))) ?_))))
          refine ws_region rfl (wlo 0 1 rfl rfl rfl (wo_run rfl rfl (run_add rfl rfl rfl (by first | assumption | omega | (simp only [lens]; omega))) ?_))
          refine wlm 1 2 rfl rfl rfl rfl rfl rfl rfl (wl_end rfl (nm_lp ?_))
          intro ax_ hax_
          refine ⟨_, ?hq14m, ⟨c + 1, _, _, _, rfl, hax_.sub ⟨rfl, rfl, rfl, rfl, rfl, rfl, rfl, rfl, trivial⟩, S43.pick [1, 2, 3] [_, _, _] (by decide) ⟨rfl, rfl, rfl, trivial⟩, ?hq14f0, ?hq14f1, ?hq14f2⟩⟩
          case hq14f0 => omega
          case hq14f1 => assumption
          case hq14f2 => (rw [gE_eq (by rw [← hgi0, ← hgj0]; exact hij)]; exact htb)
          case hq14m => omega
      ·replace hb69 := of_decide_eq_false hb69
       refine ws_exit rfl rfl (nmk [10, 12] rfl (nm_thn (ws_seqN goeritz_n94 goeritz_n95 rfl rfl rfl (ws_region rfl ?_))))
       refine wlm 0 1 rfl rfl rfl rfl rfl rfl rfl (wlm 1 2 rfl rfl rfl rfl rfl rfl rfl (wla 2 3 rfl rfl rfl rfl rfl rfl rfl (wla 3 4 rfl rfl rfl rfl rfl rfl rfl (wl_end rfl ?_))))
       refine nmk [4, 5] rfl (nm_thn ?_)
       obtain rfl : c = d.crs.length := by omega
       have hfin : tb = gzL d sd := htb
       have hroom : ∀ i, i < tb.length → (ga tb i).length * cdInt.u8 ≤ 140737488355328 := by (intro i hi; rw [htb] at hi ⊢; rw [tbl_len] at hi; rw [tbl_rlen _ hi]; show _ * 8 ≤ _; omega)
       obtain ⟨M21, hle24, S48, hd1⟩ := S11.pubtab (i := 0) (H' := [_, _, _]) rfl rfl (by assumption)
       clear S11
       replace hcb := hcb.mono hle24
       replace hsb := hsb.mono hle24
       replace hsc := hsc.mono hle24
       replace hsi := hsi.mono hle24
       replace hso := hso.mono hle24
       replace hmp := hmp.mono hle24
       replace hss := hss.mono hle24
       obtain ⟨M22, hle25, S49, ⟨A2, c2, e1, hr1⟩⟩ := S48.pubrow (i := 1) (H' := [_, _, _]) rfl rfl (by show _ * 24 ≤ _; first | assumption | omega | (simp only [lens]; omega))
       clear S48; subst e1
       replace hcb := hcb.mono hle25
       replace hsb := hsb.mono hle25
       replace hsc := hsc.mono hle25
       replace hsi := hsi.mono hle25
       replace hso := hso.mono hle25
       replace hmp := hmp.mono hle25
       replace hss := hss.mono hle25
       replace hd1 := hd1.mono hle25
       refine ws_ret hC [_, _] rfl rfl ⟨rfl, rfl, trivial⟩ ?_
       refine ⟨_, rfl, _, hle24.trans hle25, (S49.pick [] [] (by decide) trivial), ?_⟩
       rw [← hfin]
       exact ⟨_, _, _, rfl, hr1, hd1⟩
noncomputable def Shades_n0 : Code := Try.f4.body.getD .skip
noncomputable def Shades_n1 : Code := cL Shades_n0
noncomputable def Shades_n2 : Code := cR Shades_n0
noncomputable def Shades_n3 : Code := cL Shades_n2
noncomputable def Shades_n4 : Code := cR Shades_n2
noncomputable def Shades_n5 : Code := cL Shades_n4
noncomputable def Shades_n6 : Code := cR Shades_n4
noncomputable def Shades_n7 : Code := cL Shades_n5
noncomputable def Shades_n8 : Code := cR Shades_n5
noncomputable def Shades_n9 : Code := cL Shades_n8
noncomputable def Shades_n10 : Code := cR Shades_n8
noncomputable def Shades_n11 : Code := cL Shades_n9
noncomputable def Shades_n12 : Code := cR Shades_n9
noncomputable def Shades_n13 : Code := cL Shades_n6
noncomputable def Shades_n14 : Code := cR Shades_n6
set_option maxRecDepth 10000 in
theorem Shades_t {w : World} {M : Hp} {X : Fr} (d : Dg) {dcrsA : Option Addr} {dcrsc : Nat} (hdcrs : RdA cdCr (M.un X.h) dcrsA dcrsc d.crs) (S : SH w M X []) : Ct Try.prog 4 [.agg [.slice dcrsA d.crs.length dcrsc, .int .i64 d.loops].toArray] w M X (fun u N => ∃ A c, u = .tuple [.slice A (shR d).length c, .int .i64 (errG d)].toArray ∧ RdA cdInt N A c (shR d)) := by
 unfold Ct
 have rmhdcrs : d.crs.length * 40 ≤ 140737488355328 := hdcrs.room
 refine calls_in (b := Shades_n0) Try.func4 rfl Try.ntmps4 rfl (fun C hC => (ws_sub [(0, _)] ⟨rfl, trivial⟩ (ws_seqN Shades_n1 Shades_n2 rfl rfl rfl (ws_region rfl (wlo 0 1 rfl rfl rfl (wo_box (l := [_, _]) rfl rfl rfl rfl rfl S ?_))))))
 intro gb1 w1 S1; clear S
 refine wla 1 2 rfl rfl rfl rfl rfl rfl rfl (wla 2 3 rfl rfl rfl rfl rfl rfl rfl (wl_end rfl (nmk [1] rfl (nm_thn ?_))))
 refine ws_seqN Shades_n3 Shades_n4 rfl rfl rfl (ws_region rfl (wlo 0 1 rfl rfl rfl (wo_run rfl rfl (run_loadN (us := [_, _]) rfl rfl Try.underlying24 rfl sz24 (S1.boxcs (i := 0) rfl ⟨rfl, rfl, trivial⟩)) (wlo 1 2 rfl rfl rfl (wo_ct rfl rfl rfl rfl rfl rfl rfl cf12 S1 (InF.G.SOpen_t d (hdcrs.mono S1.un_XH) S1.lend) ?_)))))
 intro vw2 w2 M1 hle1 S2 hRw2; clear S1
 replace hdcrs := hdcrs.mono (Hp.un_mono hle1 S2.mx)
 rcases hRw2 with ⟨hopn8, rfl⟩ | ⟨hopn8, g1, g2, g3, cA8, iA8, oA8, sA8, cc8, ic8, oc8, sc8, rfl, hcb8, ⟨hsb8, hsc8, hsi8, hso8⟩, hmp8, hss8⟩
 ·refine wlm 2 3 rfl rfl rfl rfl rfl rfl rfl (wlo 3 4 rfl rfl rfl (wo_run rfl rfl (run_extract rfl rfl rfl) (wlo 4 5 rfl rfl rfl (wo_run rfl rfl (run_extract rfl rfl rfl) (wla 5 6 rfl rfl rfl rfl rfl rfl rfl (wla 6 7 rfl rfl rfl rfl rfl rfl rfl ?_))))))
  refine wl_end rfl (nmk [4, 5] rfl (nm_thn (ws_seqN Shades_n5 Shades_n6 rfl rfl rfl (ws_seqN Shades_n7 Shades_n8 rfl rfl rfl ?_))))
  refine ws_region rfl (wlm 0 1 rfl rfl rfl rfl rfl rfl rfl (wlo 1 2 rfl rfl rfl (wo_run rfl rfl (run_neq rfl rfl rfl) (wl_end rfl (nmk [4, 5, 12] rfl ?_)))))
  refine nm_thn ?_
  refine ws_condN Shades_n9 Shades_n10 rfl rfl rfl rfl (fun hb12 => ?_) (fun hb12 => ?_)
  ·replace hb12 := of_decide_eq_true hb12
   refine ws_seqN Shades_n11 Shades_n12 rfl rfl rfl (ws_region rfl (wlm 0 1 rfl rfl rfl rfl rfl rfl rfl (wla 1 2 rfl rfl rfl rfl rfl rfl rfl (wla 2 3 rfl rfl rfl rfl rfl rfl rfl ?_))))
   refine wl_end rfl (nmk [2, 3] rfl (nm_thn (ws_ret hC [_, _] rfl rfl ⟨rfl, rfl, trivial⟩ ?_)))
   refine ⟨_, rfl, _, hle1, (S2.pick [] [] (by decide) trivial), ?_⟩
   have e1 : shR d = [] := by unfold shR; rw [if_neg hopn8]
   rw [e1]
   exact ⟨none, 0, rfl, RdA.nil_⟩
  ·replace hb12 := of_decide_eq_false hb12
   exfalso; omega
 ·obtain ⟨hO9, h19, hS, hn⟩ := errG_ok hopn8
  refine wlm 2 3 rfl rfl rfl rfl rfl rfl rfl (wlo 3 4 rfl rfl rfl (wo_run rfl rfl (run_extract rfl rfl rfl) (wlo 4 5 rfl rfl rfl (wo_run rfl rfl (run_extract rfl rfl rfl) (wla 5 6 rfl rfl rfl rfl rfl rfl rfl (wla 6 7 rfl rfl rfl rfl rfl rfl rfl ?_))))))
  refine wl_end rfl (nmk [4, 5] rfl (nm_thn (ws_seqN Shades_n5 Shades_n6 rfl rfl rfl (ws_seqN Shades_n7 Shades_n8 rfl rfl rfl ?_))))
  refine ws_region rfl (wlm 0 1 rfl rfl rfl rfl rfl rfl rfl (wlo 1 2 rfl rfl rfl (wo_run rfl rfl (run_neq rfl rfl rfl) (wl_end rfl (nmk [4, 5, 12] rfl ?_)))))
  refine nm_thn ?_
  refine ws_condN Shades_n9 Shades_n10 rfl rfl rfl rfl (fun hb12 => ?_) (fun hb12 => ?_)
  ·replace hb12 := of_decide_eq_true hb12
   exfalso; omega
  ·replace hb12 := of_decide_eq_false hb12
   refine ws_skip rfl (nmk [4] rfl (nm_thn (ws_seqN Shades_n13 Shades_n14 rfl rfl rfl (ws_region rfl ?_))))
   refine wlm 0 1 rfl rfl rfl rfl rfl rfl rfl (wlo 1 2 rfl rfl rfl (wo_run rfl rfl (run_nilCheck rfl rfl) (wlo 2 3 rfl rfl rfl (wo_run rfl rfl (run_fieldAddr rfl rfl Try.underlying46 rfl (ce25) (nf25)) (wlo 3 4 rfl rfl rfl (wo_run rfl rfl (run_load1 rfl rfl Try.underlying25 rfl (hcb8.cell S2.m rfl)) (wla 4 5 rfl rfl rfl rfl rfl rfl rfl ?_)))))))
   refine wla 5 6 rfl rfl rfl rfl rfl rfl rfl (wl_end rfl (nmk [2, 3] rfl (nm_thn (ws_ret hC [_, _] rfl rfl ⟨rfl, rfl, trivial⟩ ?_))))
   refine ⟨_, rfl, _, hle1, (S2.pick [] [] (by decide) trivial), ?_⟩
   have e1 : shR d = shL d := by unfold shR; rw [if_pos hopn8]
   rw [e1, hopn8]
   exact ⟨_, _, rfl, hss8⟩
noncomputable def Goeritz_n0 : Code := Try.f6.body.getD .skip
noncomputable def Goeritz_n1 : Code := cL Goeritz_n0
noncomputable def Goeritz_n2 : Code := cR Goeritz_n0
noncomputable def Goeritz_n3 : Code := cL Goeritz_n2
noncomputable def Goeritz_n4 : Code := cR Goeritz_n2
noncomputable def Goeritz_n5 : Code := cL Goeritz_n3
noncomputable def Goeritz_n6 : Code := cR Goeritz_n3
noncomputable def Goeritz_n7 : Code := cL Goeritz_n6
noncomputable def Goeritz_n8 : Code := cR Goeritz_n6
noncomputable def Goeritz_n9 : Code := cL Goeritz_n7
noncomputable def Goeritz_n10 : Code := cR Goeritz_n7
noncomputable def Goeritz_n11 : Code := cL Goeritz_n4
noncomputable def Goeritz_n12 : Code := cR Goeritz_n4
noncomputable def Goeritz_n13 : Code := cL Goeritz_n12
noncomputable def Goeritz_n14 : Code := cR Goeritz_n12
noncomputable def Goeritz_n15 : Code := cL Goeritz_n13
noncomputable def Goeritz_n16 : Code := cR Goeritz_n13
noncomputable def Goeritz_n17 : Code := cL Goeritz_n16
noncomputable def Goeritz_n18 : Code := cR Goeritz_n16
noncomputable def Goeritz_n19 : Code := cL Goeritz_n17
noncomputable def Goeritz_n20 : Code := cR Goeritz_n17
noncomputable def Goeritz_n21 : Code := cL Goeritz_n14
noncomputable def Goeritz_n22 : Code := cR Goeritz_n14
noncomputable def Goeritz_n23 : Code := cL Goeritz_n22
noncomputable def Goeritz_n24 : Code := cR Goeritz_n22
set_option maxRecDepth 10000 in
theorem Goeritz_t {w : World} {M : Hp} {X : Fr} (d : Dg) {dcrsA : Option Addr} {dcrsc : Nat} (sd : Int) (hdcrs : RdA cdCr (M.un X.h) dcrsA dcrsc d.crs) (S : SH w M X []) : Ct Try.prog 6 [.agg [.slice dcrsA d.crs.length dcrsc, .int .i64 d.loops].toArray, .int .i64 sd] w M X (fun u N => ∃ A c vs, u = .tuple [.slice A vs.length c, .int .i64 (fxR d sd), .int .i64 (errZ d sd)].toArray ∧ RdA (cdV 25) N A c vs ∧ Rd2 cdInt N vs (gzR d sd)) := by
 unfold Ct
 have rmhdcrs : d.crs.length * 40 ≤ 140737488355328 := hdcrs.room
 refine calls_in (b := Goeritz_n0) Try.func6 rfl Try.ntmps6 rfl (fun C hC => (ws_sub [(0, _), (1, _)] ⟨rfl, rfl, trivial⟩ (ws_seqN Goeritz_n1 Goeritz_n2 rfl rfl rfl (ws_region rfl (wlo 0 1 rfl rfl rfl (wo_box (l := [_, _]) rfl rfl rfl rfl rfl S ?_))))))
 intro gb1 w1 S1; clear S
 refine wla 1 2 rfl rfl rfl rfl rfl rfl rfl (wla 2 3 rfl rfl rfl rfl rfl rfl rfl (wla 3 4 rfl rfl rfl rfl rfl rfl rfl (wl_end rfl (nmk [1, 2] rfl ?_))))
 refine nm_thn (ws_seqN Goeritz_n3 Goeritz_n4 rfl rfl rfl (ws_seqN Goeritz_n5 Goeritz_n6 rfl rfl rfl (ws_region rfl (wlm 0 1 rfl rfl rfl rfl rfl rfl rfl ?_))))
 refine wlo 1 2 rfl rfl rfl (wo_run rfl rfl (run_neq rfl rfl rfl) (wlm 2 3 rfl rfl rfl rfl rfl rfl rfl ?_))
 refine wl_split (t := 13) rfl (fun hg13 => ?_) (fun hg13 => ?_)
 ·replace hg13 := of_decide_eq_true hg13
  refine wlg 3 4 rfl rfl rfl rfl rfl rfl rfl rfl (wo_run rfl rfl (run_move rfl rfl) (wlg 4 5 rfl rfl rfl rfl rfl rfl rfl rfl (wo_run rfl rfl (run_neq rfl rfl rfl) (wlo 5 6 rfl rfl rfl (wo_run rfl rfl (run_pickT rfl rfl rfl) (wl_end rfl (nmk [1, 2, 16] rfl ?_)))))))
  refine nm_thn ?_
  refine ws_condN Goeritz_n7 Goeritz_n8 rfl rfl rfl rfl (fun hb16 => ?_) (fun hb16 => ?_)
  ·replace hb16 := of_decide_eq_true hb16
   refine ws_seqN Goeritz_n9 Goeritz_n10 rfl rfl rfl (ws_region rfl (wla 0 1 rfl rfl rfl rfl rfl rfl rfl (wla 1 2 rfl rfl rfl rfl rfl rfl rfl (wla 2 3 rfl rfl rfl rfl rfl rfl rfl ?_))))
   refine wl_end rfl (nmk [4, 5, 6] rfl (nm_thn (ws_ret hC [_, _, _] rfl rfl ⟨rfl, rfl, rfl, trivial⟩ ?_)))
   refine ⟨_, rfl, _, Hp.le_refl _, (S1.pick [] [] (by decide) trivial), ?_⟩
   have e0 : errZ d sd = 3 := by unfold errZ; rw [if_neg (by omega)]
   have e1 : gzR d sd = [] := by unfold gzR; rw [if_neg (by rw [e0]; decide)]
   have e2 : fxR d sd = 0 := by unfold fxR; rw [if_neg (by rw [e0]; decide)]
   rw [e0, e1, e2]
   exact ⟨none, 0, [], rfl, RdA.nil_, Rd2.nil_⟩
  ·replace hb16 := of_decide_eq_false hb16
   refine ws_skip rfl (nmk [1, 2] rfl (nm_thn (ws_seqN Goeritz_n11 Goeritz_n12 rfl rfl rfl (ws_region rfl ?_))))
   refine wlo 0 1 rfl rfl rfl (wo_run rfl rfl (run_loadN (us := [_, _]) rfl rfl Try.underlying24 rfl sz24 (S1.boxcs (i := 0) rfl ⟨rfl, rfl, trivial⟩)) (wlo 1 2 rfl rfl rfl (wo_ct rfl rfl rfl rfl rfl rfl rfl cf12 S1 (InF.G.SOpen_t d (hdcrs.mono S1.un_XH) S1.lend) ?_)))
   intro vw2 w2 M1 hle1 S2 hRw2; clear S1
   replace hdcrs := hdcrs.mono (Hp.un_mono hle1 S2.mx)
   rcases hRw2 with ⟨hopn19, rfl⟩ | ⟨hopn19, g1, g2, g3, cA19, iA19, oA19, sA19, cc19, ic19, oc19, sc19, rfl, hcb19, ⟨hsb19, hsc19, hsi19, hso19⟩, hmp19, hss19⟩
   ·refine wlm 2 3 rfl rfl rfl rfl rfl rfl rfl (wlo 3 4 rfl rfl rfl (wo_run rfl rfl (run_extract rfl rfl rfl) (wlo 4 5 rfl rfl rfl (wo_run rfl rfl (run_extract rfl rfl rfl) (wla 5 6 rfl rfl rfl rfl rfl rfl rfl (wla 6 7 rfl rfl rfl rfl rfl rfl rfl ?_))))))
    refine wl_end rfl (nmk [1, 7, 8] rfl (nm_thn (ws_seqN Goeritz_n13 Goeritz_n14 rfl rfl rfl (ws_seqN Goeritz_n15 Goeritz_n16 rfl rfl rfl ?_))))
    refine ws_region rfl (wlm 0 1 rfl rfl rfl rfl rfl rfl rfl (wlo 1 2 rfl rfl rfl (wo_run rfl rfl (run_neq rfl rfl rfl) (wl_end rfl (nmk [1, 7, 8, 23] rfl ?_)))))
    refine nm_thn ?_
    refine ws_condN Goeritz_n17 Goeritz_n18 rfl rfl rfl rfl (fun hb23 => ?_) (fun hb23 => ?_)
    ·replace hb23 := of_decide_eq_true hb23
     refine ws_seqN Goeritz_n19 Goeritz_n20 rfl rfl rfl (ws_region rfl (wlm 0 1 rfl rfl rfl rfl rfl rfl rfl (wla 1 2 rfl rfl rfl rfl rfl rfl rfl (wla 2 3 rfl rfl rfl rfl rfl rfl rfl ?_))))
     refine wla 3 4 rfl rfl rfl rfl rfl rfl rfl (wl_end rfl (nmk [4, 5, 6] rfl (nm_thn (ws_ret hC [_, _, _] rfl rfl ⟨rfl, rfl, rfl, trivial⟩ ?_))))
     refine ⟨_, rfl, _, hle1, (S2.pick [] [] (by decide) trivial), ?_⟩
     have e0 : errZ d sd = errG d := by unfold errZ; rw [if_pos (by omega)]
     have e1 : gzR d sd = [] := by unfold gzR; rw [if_neg (by rw [e0]; exact hopn19)]
     have e2 : fxR d sd = 0 := by unfold fxR; rw [if_neg (by rw [e0]; exact hopn19)]
     rw [e0, e1, e2]
     exact ⟨none, 0, [], rfl, RdA.nil_, Rd2.nil_⟩
    ·replace hb23 := of_decide_eq_false hb23
     exfalso; omega
   ·obtain ⟨hO9, h19, hS, hn⟩ := errG_ok hopn19
    refine wlm 2 3 rfl rfl rfl rfl rfl rfl rfl (wlo 3 4 rfl rfl rfl (wo_run rfl rfl (run_extract rfl rfl rfl) (wlo 4 5 rfl rfl rfl (wo_run rfl rfl (run_extract rfl rfl rfl) (wla 5 6 rfl rfl rfl rfl rfl rfl rfl (wla 6 7 rfl rfl rfl rfl rfl rfl rfl ?_))))))
    refine wl_end rfl (nmk [1, 7, 8] rfl (nm_thn (ws_seqN Goeritz_n13 Goeritz_n14 rfl rfl rfl (ws_seqN Goeritz_n15 Goeritz_n16 rfl rfl rfl ?_))))
    refine ws_region rfl (wlm 0 1 rfl rfl rfl rfl rfl rfl rfl (wlo 1 2 rfl rfl rfl (wo_run rfl rfl (run_neq rfl rfl rfl) (wl_end rfl (nmk [1, 7, 8, 23] rfl ?_)))))
    refine nm_thn ?_
    refine ws_condN Goeritz_n17 Goeritz_n18 rfl rfl rfl rfl (fun hb23 => ?_) (fun hb23 => ?_)
    ·replace hb23 := of_decide_eq_true hb23
     exfalso; omega
    ·replace hb23 := of_decide_eq_false hb23
     refine ws_skip rfl (nmk [1, 7] rfl (nm_thn (ws_seqN Goeritz_n21 Goeritz_n22 rfl rfl rfl (ws_region rfl ?_))))
     refine wlm 0 1 rfl rfl rfl rfl rfl rfl rfl (wlm 1 2 rfl rfl rfl rfl rfl rfl rfl (wlo 2 3 rfl rfl rfl (wo_ct rfl rfl rfl rfl rfl rfl rfl cf13 S2 (goeritz_t d sd hcb19 hsb19 hsc19 hsi19 hso19 hmp19 hss19 hn hS (by omega) S2.lend) ?_)))
     intro vw3 w3 M2 hle2 S3 hRw3; clear S2
     replace hdcrs := hdcrs.mono (Hp.un_mono hle2 S3.mx)
     replace hcb19 := hcb19.mono hle2
     replace hsb19 := hsb19.mono hle2
     replace hsc19 := hsc19.mono hle2
     replace hsi19 := hsi19.mono hle2
     replace hso19 := hso19.mono hle2
     replace hmp19 := hmp19.mono hle2
     replace hss19 := hss19.mono hle2
     obtain ⟨A1, c1, vs1, rfl, hr1, hd1⟩ := hRw3
     refine wlm 3 4 rfl rfl rfl rfl rfl rfl rfl (wlo 4 5 rfl rfl rfl (wo_run rfl rfl (run_extract rfl rfl rfl) (wlo 5 6 rfl rfl rfl (wo_run rfl rfl (run_extract rfl rfl rfl) (wla 6 7 rfl rfl rfl rfl rfl rfl rfl (wla 7 8 rfl rfl rfl rfl rfl rfl rfl ?_))))))
     refine wl_end rfl (nmk [9, 10] rfl (nm_thn (ws_seqN Goeritz_n23 Goeritz_n24 rfl rfl rfl (ws_region rfl ?_))))
     refine wlm 0 1 rfl rfl rfl rfl rfl rfl rfl (wlm 1 2 rfl rfl rfl rfl rfl rfl rfl (wla 2 3 rfl rfl rfl rfl rfl rfl rfl (wla 3 4 rfl rfl rfl rfl rfl rfl rfl (wla 4 5 rfl rfl rfl rfl rfl rfl rfl ?_))))
     refine wl_end rfl (nmk [4, 5, 6] rfl (nm_thn (ws_ret hC [_, _, _] rfl rfl ⟨rfl, rfl, rfl, trivial⟩ ?_)))
     refine ⟨_, rfl, _, hle1.trans hle2, (S3.pick [] [] (by decide) trivial), ?_⟩
     have e0 : errZ d sd = 0 := by unfold errZ; rw [if_pos (by omega)]; exact hopn19
     have e1 : gzR d sd = gzL d sd := by unfold gzR; rw [if_pos e0]
     have e2 : fxR d sd = gX d sd d.crs.length := by unfold fxR; rw [if_pos e0]
     rw [e0, e1, e2]
     exact ⟨_, _, _, rfl, hr1, hd1⟩
 ·replace hg13 := of_decide_eq_false hg13
  refine wln 3 4 rfl rfl rfl rfl rfl rfl rfl rfl rfl (wln 4 5 rfl rfl rfl rfl rfl rfl rfl rfl rfl (wlo 5 6 rfl rfl rfl (wo_run rfl rfl (run_pickF rfl rfl rfl) (wl_end rfl (nmk [1, 2, 16] rfl ?_)))))
  refine nm_thn (ws_condFN Goeritz_n8 rfl rfl rfl (ws_skip rfl (nmk [1, 2] rfl (nm_thn ?_))))
  refine ws_seqN Goeritz_n11 Goeritz_n12 rfl rfl rfl (ws_region rfl (wlo 0 1 rfl rfl rfl (wo_run rfl rfl (run_loadN (us := [_, _]) rfl rfl Try.underlying24 rfl sz24 (S1.boxcs (i := 0) rfl ⟨rfl, rfl, trivial⟩)) (wlo 1 2 rfl rfl rfl (wo_ct rfl rfl rfl rfl rfl rfl rfl cf12 S1 (InF.G.SOpen_t d (hdcrs.mono S1.un_XH) S1.lend) ?_)))))
  intro vw4 w4 M3 hle3 S4 hRw4; clear S1
  replace hdcrs := hdcrs.mono (Hp.un_mono hle3 S4.mx)
  rcases hRw4 with ⟨hopn19, rfl⟩ | ⟨hopn19, g4, g5, g6, cA19, iA19, oA19, sA19, cc19, ic19, oc19, sc19, rfl, hcb19, ⟨hsb19, hsc19, hsi19, hso19⟩, hmp19, hss19⟩
  ·refine wlm 2 3 rfl rfl rfl rfl rfl rfl rfl (wlo 3 4 rfl rfl rfl (wo_run rfl rfl (run_extract rfl rfl rfl) (wlo 4 5 rfl rfl rfl (wo_run rfl rfl (run_extract rfl rfl rfl) (wla 5 6 rfl rfl rfl rfl rfl rfl rfl (wla 6 7 rfl rfl rfl rfl rfl rfl rfl ?_))))))
   refine wl_end rfl (nmk [1, 7, 8] rfl (nm_thn (ws_seqN Goeritz_n13 Goeritz_n14 rfl rfl rfl (ws_seqN Goeritz_n15 Goeritz_n16 rfl rfl rfl ?_))))
   refine ws_region rfl (wlm 0 1 rfl rfl rfl rfl rfl rfl rfl (wlo 1 2 rfl rfl rfl (wo_run rfl rfl (run_neq rfl rfl rfl) (wl_end rfl (nmk [1, 7, 8, 23] rfl ?_)))))
   refine nm_thn ?_
   refine ws_condN Goeritz_n17 Goeritz_n18 rfl rfl rfl rfl (fun hb23 => ?_) (fun hb23 => ?_)
   ·replace hb23 := of_decide_eq_true hb23
    refine ws_seqN Goeritz_n19 Goeritz_n20 rfl rfl rfl (ws_region rfl (wlm 0 1 rfl rfl rfl rfl rfl rfl rfl (wla 1 2 rfl rfl rfl rfl rfl rfl rfl (wla 2 3 rfl rfl rfl rfl rfl rfl rfl ?_))))
    refine wla 3 4 rfl rfl rfl rfl rfl rfl rfl (wl_end rfl (nmk [4, 5, 6] rfl (nm_thn (ws_ret hC [_, _, _] rfl rfl ⟨rfl, rfl, rfl, trivial⟩ ?_))))
    refine ⟨_, rfl, _, hle3, (S4.pick [] [] (by decide) trivial), ?_⟩
    have e0 : errZ d sd = errG d := by unfold errZ; rw [if_pos (by omega)]
    have e1 : gzR d sd = [] := by unfold gzR; rw [if_neg (by rw [e0]; exact hopn19)]
    have e2 : fxR d sd = 0 := by unfold fxR; rw [if_neg (by rw [e0]; exact hopn19)]
    rw [e0, e1, e2]
    exact ⟨none, 0, [], rfl, RdA.nil_, Rd2.nil_⟩
   ·replace hb23 := of_decide_eq_false hb23
    exfalso; omega
  ·obtain ⟨hO9, h19, hS, hn⟩ := errG_ok hopn19
   refine wlm 2 3 rfl rfl rfl rfl rfl rfl rfl (wlo 3 4 rfl rfl rfl (wo_run rfl rfl (run_extract rfl rfl rfl) (wlo 4 5 rfl rfl rfl (wo_run rfl rfl (run_extract rfl rfl rfl) (wla 5 6 rfl rfl rfl rfl rfl rfl rfl (wla 6 7 rfl rfl rfl rfl rfl rfl rfl ?_))))))
   refine wl_end rfl (nmk [1, 7, 8] rfl (nm_thn (ws_seqN Goeritz_n13 Goeritz_n14 rfl rfl rfl (ws_seqN Goeritz_n15 Goeritz_n16 rfl rfl rfl ?_))))
   refine ws_region rfl (wlm 0 1 rfl rfl rfl rfl rfl rfl rfl (wlo 1 2 rfl rfl rfl (wo_run rfl rfl (run_neq rfl rfl rfl) (wl_end rfl (nmk [1, 7, 8, 23] rfl ?_)))))
   refine nm_thn ?_
   refine ws_condN Goeritz_n17 Goeritz_n18 rfl rfl rfl rfl (fun hb23 => ?_) (fun hb23 => ?_)
   ·replace hb23 := of_decide_eq_true hb23
    exfalso; omega
   ·replace hb23 := of_decide_eq_false hb23
    refine ws_skip rfl (nmk [1, 7] rfl (nm_thn (ws_seqN Goeritz_n21 Goeritz_n22 rfl rfl rfl (ws_region rfl ?_))))
    refine wlm 0 1 rfl rfl rfl rfl rfl rfl rfl (wlm 1 2 rfl rfl rfl rfl rfl rfl rfl (wlo 2 3 rfl rfl rfl (wo_ct rfl rfl rfl rfl rfl rfl rfl cf13 S4 (goeritz_t d sd hcb19 hsb19 hsc19 hsi19 hso19 hmp19 hss19 hn hS (by omega) S4.lend) ?_)))
    intro vw5 w5 M4 hle4 S5 hRw5; clear S4
    replace hdcrs := hdcrs.mono (Hp.un_mono hle4 S5.mx)
    replace hcb19 := hcb19.mono hle4
    replace hsb19 := hsb19.mono hle4
    replace hsc19 := hsc19.mono hle4
    replace hsi19 := hsi19.mono hle4
    replace hso19 := hso19.mono hle4
    replace hmp19 := hmp19.mono hle4
    replace hss19 := hss19.mono hle4
    obtain ⟨A2, c2, vs2, rfl, hr2, hd2⟩ := hRw5
    refine wlm 3 4 rfl rfl rfl rfl rfl rfl rfl (wlo 4 5 rfl rfl rfl (wo_run rfl rfl (run_extract rfl rfl rfl) (wlo 5 6 rfl rfl rfl (wo_run rfl rfl (run_extract rfl rfl rfl) (wla 6 7 rfl rfl rfl rfl rfl rfl rfl (wla 7 8 rfl rfl rfl rfl rfl rfl rfl ?_))))))
    refine wl_end rfl (nmk [9, 10] rfl (nm_thn (ws_seqN Goeritz_n23 Goeritz_n24 rfl rfl rfl (ws_region rfl ?_))))
    refine wlm 0 1 rfl rfl rfl rfl rfl rfl rfl (wlm 1 2 rfl rfl rfl rfl rfl rfl rfl (wla 2 3 rfl rfl rfl rfl rfl rfl rfl (wla 3 4 rfl rfl rfl rfl rfl rfl rfl (wla 4 5 rfl rfl rfl rfl rfl rfl rfl ?_))))
    refine wl_end rfl (nmk [4, 5, 6] rfl (nm_thn (ws_ret hC [_, _, _] rfl rfl ⟨rfl, rfl, rfl, trivial⟩ ?_)))
    refine ⟨_, rfl, _, hle3.trans hle4, (S5.pick [] [] (by decide) trivial), ?_⟩
    have e0 : errZ d sd = 0 := by unfold errZ; rw [if_pos (by omega)]; exact hopn19
    have e1 : gzR d sd = gzL d sd := by unfold gzR; rw [if_pos e0]
    have e2 : fxR d sd = gX d sd d.crs.length := by unfold fxR; rw [if_pos e0]
    rw [e0, e1, e2]
    exact ⟨_, _, _, rfl, hr2, hd2⟩
end Go.Proofs.Ythppkofceancjaa
