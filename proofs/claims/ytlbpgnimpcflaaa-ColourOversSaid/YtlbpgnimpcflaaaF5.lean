/- Walks printed by eng.py. -/
import Derived.Test.YtlbpgnimpcflaaaF4
set_option linter.unusedSimpArgs false
set_option linter.unusedVariables false
namespace Go.Proofs.Ytlbpgnimpcflaaa
open Go.ChangeShapes Go.WideShapes Go.ChangeAt Go.RowKit
def FacesR (d : Dg) (u : Value) (M : Hp) : Prop := ∃ A c vs, u = .slice A vs.length c ∧ RdA (cdV 100) M A c vs ∧ Rd2 cdDa M vs (facesL d)

namespace InF

noncomputable def Faces_n0 : Code := Try.f66.body.getD .skip
noncomputable def Faces_n1 : Code := cL Faces_n0
noncomputable def Faces_n2 : Code := cR Faces_n0
noncomputable def Faces_n3 : Code := cL Faces_n2
noncomputable def Faces_n4 : Code := cR Faces_n2
noncomputable def Faces_n5 : Code := cL Faces_n4
noncomputable def Faces_n6 : Code := cR Faces_n4
noncomputable def Faces_n7 : Code := cL Faces_n6
noncomputable def Faces_n8 : Code := cR Faces_n6
noncomputable def Faces_n9 : Code := cL Faces_n7
noncomputable def Faces_n10 : Code := cR Faces_n7
noncomputable def Faces_n11 : Code := cL Faces_n10
set_option maxRecDepth 10000 in
theorem Faces_t {w : World} {M : Hp} {X : Fr} (d : Dg) {gsh : Nat} {cA iA oA : Option Addr} {cc ic oc : Nat} (hsb : BxM M gsh 81 [.slice cA d.crs.length cc, .int .i64 d.loops, .slice iA (tabL d false (4 * d.crs.length)).length ic, .slice oA (tabL d true (4 * d.crs.length)).length oc]) (hsc : RdA cdCr M cA cc d.crs) (hsi : RdA cdPl M iA ic (tabL d false (4 * d.crs.length))) (hso : RdA cdPl M oA oc (tabL d true (4 * d.crs.length))) (hn : d.crs.length ≤ 16) (hab : arcsB d = true) (S : SH w M X []) : Ct Try.prog 66 [.pointer (some ⟨gsh, 0, none⟩)] w M X (FacesR d) := by
  unfold Ct
  refine calls_marks (b := Faces_n0) Try.func66 rfl Try.ntmps66 rfl (fun C hCr hC => ?_)
  refine ws_sub [(0, _)] ⟨rfl, trivial⟩ ?_
  refine ws_seqN Faces_n1 Faces_n2 rfl rfl rfl ?_
  refine ws_region rfl ?_
  refine wl_op (k := 0) (k' := 1) rfl rfl rfl (wo_box (l := [_]) rfl rfl rfl rfl rfl S ?_)
  intro gb1 w1 S1; clear S
  refine wl_op (k := 1) (k' := 2) rfl rfl rfl (wo_run rfl rfl (run_assign rfl rfl) ?_)
  refine wl_end rfl ?_
  refine nm_sub [(1, _)] ⟨rfl, trivial⟩ ?_
  refine nm_thn ?_
  refine ws_seqN Faces_n3 Faces_n4 rfl rfl rfl ?_
  refine ws_region rfl ?_
  refine wl_op (k := 0) (k' := 1) rfl rfl rfl (wo_makeMap Da Bool (fun x => Value.agg (cdDa.f x).toArray) Value.bool rfl rfl rfl S1 ?_)
  intro gm1 w2 S2; clear S1
  refine wl_op (k := 1) (k' := 2) rfl rfl rfl (wo_alloc (l := [_]) rfl rfl rfl zr119 rfl S2 ?_)
  intro gb2 w3 S3; clear S2
  refine wl_op (k := 2) (k' := 3) rfl rfl rfl (wo_storeB (i := 0) (us := [_]) (l' := [_]) (H' := [_, _, _]) rfl rfl S3 rfl rfl rfl rfl sz119 rfl rfl rfl rfl ?_)
  intro w4 S4; clear S3
  refine wl_end rfl ?_
  refine nm_sub [(1, _), (3, _)] ⟨rfl, rfl, trivial⟩ ?_
  refine nm_thn ?_
  refine ws_seqN Faces_n5 Faces_n6 rfl rfl rfl ?_
  refine ws_region rfl ?_
  refine wl_op (k := 0) (k' := 1) rfl rfl rfl (wo_alloc (l := [_]) rfl rfl rfl zr54 rfl S4 ?_)
  intro gb3 w5 S5; clear S4
  refine wl_end rfl ?_
  refine nm_thn ?_
  refine ws_seqN Faces_n7 Faces_n8 rfl rfl rfl ?_
  refine ws_seqN Faces_n9 Faces_n10 rfl rfl rfl ?_
  refine ws_region rfl ?_
  refine wl_op (k := 0) (k' := 1) rfl rfl rfl (wo_run rfl rfl (run_load1 rfl rfl Try.underlying75 rfl (S5.boxc (i := 3) rfl rfl)) ?_)
  refine wl_op (k := 1) (k' := 2) rfl rfl rfl (wo_ct rfl rfl rfl rfl rfl rfl rfl cf86 S5 (Darts_t d hsb hsc hsi hso S5.lend) ?_)
  intro vw6 w6 M1 hle1 S6 hRw6; clear S5
  replace hsb := hsb.mono hle1
  replace hsc := hsc.mono hle1
  replace hsi := hsi.mono hle1
  replace hso := hso.mono hle1
  obtain ⟨bd1, rfl, hbx1⟩ := hRw6
  refine wl_end rfl ?_
  refine nm_sub [(1, _), (3, _), (4, _), (10, _)] ⟨rfl, rfl, rfl, rfl, trivial⟩ ?_
  refine nm_thn ?_
  refine ws_blockN Faces_n11 0 rfl rfl rfl ?_
  have S9 := (S6.nilrow (cdV 100)).pick [3, 1, 0, 2, 4] [_, _, _, _, _] (by decide) ⟨rfl, rfl, rfl, rfl, rfl, trivial⟩
  refine ws_rangeFunc (p := 11) (f := 97) (lb := [_]) (asg := rfA Faces_rf) (bd := rfB Faces_rf) (enc := encD) (N := 4 * d.crs.length) hCr rfl rfl rfl cf97 S9 (FacesI d gsh gb1 gb2 gb3 gm1) (FacesI1 d gsh gb1 gb2 gb3 gm1) ?_ (Darts1_iter d hsb hsc hsi hso hbx1 hn) ?_ ?_ ?_
  · exact ⟨[], [], .slice none 0 0, _, [], rfl, Rd2.nil_, rfl, SeenM.nil_ d⟩
  · intro k M' H' w' C' R0 hk hle S' hI
    exact Faces_assign ⟨rfl, rfl, rfl, rfl, trivial⟩ S' hI
  · intro k M' H' w' C' R0 a hk hle S' hI1
    exact Faces_body d (hsb.mono hle) (hsc.mono hle) (hsi.mono hle) (hso.mono hle) hn hab hk S' hI1
  · intro a M' H' w' D l rc ha hle S' hI
    obtain ⟨es, vs, vout, seen, outc, rfl, hdo, hfn, hse⟩ := hI
    change SH w' M' X [Rs.lr l D rc, _, _, Rs.row (cdV 100) vout vs, _, _] at S'
    refine tail_la (c := Faces_n8) (i := 15) (d1 := 34) (d2 := 2) (v := vout) hC rfl rfl rfl rfl rfl rfl rfl ha rfl Try.underlying54 rfl rfl rfl rfl S' (S'.boxc (i := 2) rfl rfl) (fun w2 S2 => ?_)
    have hvl := hdo.1
    rw [List.length_map] at hvl
    have hmany := facesN_many d (4 * d.crs.length)
    rw [hfn] at hmany
    replace hmany : outc.length ≤ 4 * d.crs.length := hmany
    obtain ⟨M3, hle3, S3, ⟨A, c, e, hr⟩⟩ := S2.pubrow (i := 2) (H' := [_, _, _, _, _]) rfl rfl (by show _ * 24 ≤ _; omega)
    subst e
    refine ⟨_, rfl, M3, (hle1).trans (hle.trans hle3), S3.pick [] [] (by decide) trivial, A, c, vs, rfl, hr, ?_⟩
    have e2 : facesL d = outc.map dasL := by unfold facesL facesD; rw [hfn]
    rw [e2]
    exact hdo.mono hle3

end InF
end Go.Proofs.Ytlbpgnimpcflaaa
