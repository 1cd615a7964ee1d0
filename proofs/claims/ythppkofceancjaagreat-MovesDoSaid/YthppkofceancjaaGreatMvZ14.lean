/- Part 14 of the proof of the law MovesDo: the walks through its functions and the plain laws that they need. -/
import Derived.Test.YthppkofceancjaaGreatMvZ13
import Derived.Lib.SmallJoins
import Derived.Deep.Slices
import Derived.Deep.Fields
import Derived.ChangeSame
set_option linter.unusedSimpArgs false
set_option linter.unusedVariables false
noncomputable section
namespace Go.Proofs.YthppkofceancjaaGreat
open Go.ChangeShapes Go.WideShapes Go.ChangeAt Go.RowKit
theorem kindF_none {k : Int} (h1 : ¬ k = 1) (h2 : ¬ k = 2) (h3 : ¬ k = 3) (h4 : ¬ k = 4) (h5 : ¬ k = 5) : kindF k = none := by
 unfold kindF kindsL
 simp only [mg]
 rw [if_neg h1, if_neg h2, if_neg h3, if_neg h4, if_neg h5]
 rfl
theorem doP_k {d : Dg} {m : Mv} (hop : opB d = true) {f : Nat} (hk : kindF m.kd = some f) : doP d m = mvR (mvE d m) (mvD d m) := by
 unfold doP mvR
 rw [if_neg (by rw [hop]; decide), if_neg (by rw [hk]; exact Option.some_ne_none _)]
theorem opB_of {d : Dg} (h1 : mayB d = true) (h2 : planIs d = true) : opB d = true := by
 unfold opB
 rw [h1, ← planar_law (mayO h1).2.1, h2]
 rfl
theorem opB_not {d : Dg} (h1 : mayB d = true) (h2 : planIs d = false) : opB d = false := by
 unfold opB
 rw [h1, ← planar_law (mayO h1).2.1, h2]
 rfl
theorem doP_1 {d : Dg} {m : Mv} (hop : opB d = true) (h : m.kd = 1) : doP d m = mvR (curE d m) (curD d m) := by
 rw [doP_k hop (f := 67) (by rw [h]; rfl)]
 rw [show mvE d m = curE d m from by unfold mvE; rw [h]; rfl, show mvD d m = curD d m from by unfold mvD; rw [h]; rfl]
theorem doP_2 {d : Dg} {m : Mv} (hop : opB d = true) (h : m.kd = 2) : doP d m = mvR (uncE d m) (uncD d m) := by
 rw [doP_k hop (f := 68) (by rw [h]; rfl)]
 rw [show mvE d m = uncE d m from by unfold mvE; rw [h]; rfl, show mvD d m = uncD d m from by unfold mvD; rw [h]; rfl]
theorem doP_3 {d : Dg} {m : Mv} (hop : opB d = true) (h : m.kd = 3) : doP d m = mvR (puE d m) (puD d m) := by
 rw [doP_k hop (f := 69) (by rw [h]; rfl)]
 rw [show mvE d m = puE d m from by unfold mvE; rw [h]; rfl, show mvD d m = puD d m from by unfold mvD; rw [h]; rfl]
theorem doP_4 {d : Dg} {m : Mv} (hop : opB d = true) (h : m.kd = 4) : doP d m = mvR (plE d m) (plD d m) := by
 rw [doP_k hop (f := 70) (by rw [h]; rfl)]
 rw [show mvE d m = plE d m from by unfold mvE; rw [h]; rfl, show mvD d m = plD d m from by unfold mvD; rw [h]; rfl]
theorem doP_5 {d : Dg} {m : Mv} (hop : opB d = true) (h : m.kd = 5) : doP d m = mvR (slE d m) (slD d m) := by
 rw [doP_k hop (f := 71) (by rw [h]; rfl)]
 rw [show mvE d m = slE d m from by unfold mvE; rw [h]; rfl, show mvD d m = slD d m from by unfold mvD; rw [h]; rfl]
noncomputable def Z1hq:=Tryz.f10.body.getD .skip
def Z1hr := cL Z1hq
def Z1hs := cR Z1hq
def Z1ht := cL Z1hs
def Z1hu := cR Z1hs
def Z1hv := cL Z1ht
def Z1hw := cR Z1ht
def Z1hx := cL Z1hw
def Z1hy := cR Z1hw
def Z1hz := cL Z1hx
def Z1i0 := cR Z1hx
def Z1i1 := cL Z1hu
def Z1i2 := cR Z1hu
def Z1i3 := cL Z1i2
def Z1i4 := cR Z1i2
def Z1i5 := cL Z1i3
def Z1i6 := cR Z1i3
def Z1i7 := cL Z1i6
def Z1i8 := cL Z1i7
def Z1i9 := cR Z1i7
def Z1ia := cL Z1i9
def Z1ib := cR Z1i9
def Z1ic := cL Z1ia
def Z1id := cR Z1ia
def Z1ie := cL Z1ib
def Z1if := cR Z1ib
def Z1ig := cL Z1if
def Z1ih := cR Z1if
def Z1ii := cL Z1ig
def Z1ij := cR Z1ig
def Z1ik := cL Z1ii
def Z1il := cR Z1ii
def Z1im := cL Z1il
def Z1in := cR Z1il
def Z1io := cL Z1im
def Z1ip := cR Z1im
def Z1iq := cL Z1ij
def Z1ir := cR Z1ij
def Z1is := cL Z1iq
def Z1it := cR Z1iq
def Z1iu := cL Z1it
def Z1iv := cR Z1it
def Z1iw := cL Z1iu
def Z1ix := cR Z1iu
def Z1iy := cL Z1ir
def Z1iz := cR Z1ir
def Z1j0 := cL Z1ih
def Z1j1 := cR Z1ih
def Z1j2 := cL Z1j1
def Z1j3 := cR Z1j1
def Z1j4 := cL Z1j2
def Z1j5 := cR Z1j2
def Z1j6 := cL Z1j3
def Z1j7 := cR Z1j3
def Z1j8 := cL Z1j7
def Z1j9 := cR Z1j7
def Z1ja := cL Z1j8
def Z1jb := cR Z1j8
def Z1jc := cL Z1ja
def Z1jd := cR Z1ja
def Z1je := cL Z1jd
def Z1jf := cR Z1jd
def Z1jg := cL Z1je
def Z1jh := cR Z1je
def Z1ji := cL Z1jb
def Z1jj := cR Z1jb
def Z1jk := cL Z1ji
def Z1jl := cR Z1ji
def Z1jm := cL Z1jl
def Z1jn := cR Z1jl
def Z1jo := cL Z1jm
def Z1jp := cR Z1jm
def Z1jq := cL Z1jj
def Z1jr := cR Z1jj
def Z1js := cL Z1j9
def Z1jt := cR Z1j9
def Z1ju := cL Z1jt
def Z1jv := cR Z1jt
def Z1jw := cL Z1ju
def Z1jx := cR Z1ju
def Z1jy := cL Z1i4
def Z1jz := cR Z1i4
set_option maxHeartbeats 2000000 in
set_option maxRecDepth 10000 in
theorem DoMove_t {w : World} {M : Hp} {X : Fr} (d : Dg) {dcrsA : Option Addr} {dcrsc : Nat} (m : Mv) (hdcrs : RdA cdCr (M.un X.h) dcrsA dcrsc d.crs) (S : SH w M X []) : Ct Tryz.prog 10 [.agg [.slice dcrsA d.crs.length dcrsc, .int .i64 d.loops].toArray, .agg [.int .i64 m.kd, .int .i64 m.at_, .int .i64 m.by_, .int .i64 m.ua, .bool m.ub, .int .i64 m.va, .bool m.vb, .bool m.ov].toArray] w M X (DoR (doP d m)) := by
 unfold Ct
 have rmhdcrs : d.crs.length * 40 ≤ 140737488355328 := hdcrs.room
 refine Uo (b := Z1hq) Tryz.func10 rfl Tryz.ntmps10 rfl (fun C hC => (U14 [(0, _), (1, _)] ⟨rfl, rfl, trivial⟩ (U2 Z1hr Z1hs rfl rfl rfl (U1 rfl (wlo 0 1 rfl rfl rfl (U18 (l := [_, _]) rfl rfl rfl rfl rfl S ?_))))))
 intro gb1 w1 S1; clear S
 refine wlo 1 2 rfl rfl rfl (U18 (l := [_, _, _, _, _, _, _, _]) rfl rfl rfl rfl rfl S1 ?_)
 intro gb2 w2 S2; clear S1
 refine wlo 2 3 rfl rfl rfl (Uh (l := [_, _]) rfl rfl rfl zr24 rfl S2 ?_)
 intro gb3 w3 S3; clear S2
 refine mvs 3 1 rfl rfl (U5 rfl (nmk [2, 3, 4] rfl (U4 (U2 Z1ht Z1hu rfl rfl rfl (U2 Z1hv Z1hw rfl rfl rfl (U1 rfl (wlr 0 rfl (U8 (us := [_, _]) rfl rfl uT24 rfl sz24 (S3.boxcs (i := 2) rfl ⟨rfl, rfl, trivial⟩)) (wlo 1 2 rfl rfl rfl (U20 rfl rfl rfl rfl rfl rfl rfl cf31 S3 (DiagramMay_q d (hdcrs.mono S3.Uw) S3.lend) ?_)))))))))
 rintro _ w4 S4 rfl; clear S3
 refine wlr 2 rfl (U1j rfl rfl) (mvs 3 1 rfl rfl ?_)
 refine U2x (t := 10) rfl (fun hg10 => ?_) (fun hg10 => ?_)
 ·simp only [Bool.and_eq_true, Bool.or_eq_true, Bool.and_eq_false_iff, Bool.or_eq_false_iff, decide_eq_true_eq, decide_eq_false_iff_not, Bool.not_eq_true', Bool.not_eq_false'] at hg10
  refine mvs 4 4 rfl rfl (U5 rfl (nmk [2, 3, 4, 14] rfl (U4 (U1h Z1hx rfl rfl rfl (U2 Z1hz Z1i0 rfl rfl rfl (U1 rfl (wlr 0 rfl (run_build (l := [_, _]) rfl rfl st24 rfl rfl) (wlo 1 2 rfl rfl rfl (U7 (i := 0) (us := [_, _]) (l' := [_, _]) (H' := [_, _, _]) rfl rfl S4 rfl rfl rfl rfl sz24 rfl rfl rfl rfl ?_)))))))))
  intro w5 S5; clear S4
  refine mvs 2 1 rfl rfl (U5 rfl (nmk [4, 5] rfl (U4 (Uk hC [_, _] rfl rfl ⟨⟨_, rfl, Up (us := [_, _]) uT24 rfl sz24 (S5.boxcs (i := 0) rfl ⟨rfl, rfl, trivial⟩)⟩, rfl, trivial⟩ ?_))))
  refine ⟨_, rfl, _, Hp.le_refl _, (S5.pick [] [] (by decide) trivial), ?_⟩
  rw [show doP d m = (⟨[], 0⟩, 7) from by unfold doP; rw [if_pos (by first | exact opB_not hg10 hb14 | (unfold opB; rw [hg10]; rfl))]]
  exact U1z 7
 ·simp only [Bool.and_eq_true, Bool.or_eq_true, Bool.and_eq_false_iff, Bool.or_eq_false_iff, decide_eq_true_eq, decide_eq_false_iff_not, Bool.not_eq_true', Bool.not_eq_false'] at hg10
  obtain ⟨hn, hab, hlo1, hlo2⟩ := mayO hg10
  have hlo : 0 ≤ d.loops ∧ d.loops ≤ 16 := ⟨hlo1, hlo2⟩
  refine wlg 4 5 rfl rfl rfl rfl rfl rfl rfl rfl (Ub rfl rfl (U8 (us := [_, _]) rfl rfl uT24 rfl sz24 (S4.boxcs (i := 2) rfl ⟨rfl, rfl, trivial⟩)) (wlg 5 6 rfl rfl rfl rfl rfl rfl rfl rfl (U2w rfl rfl rfl rfl rfl rfl rfl cf32 S4 (PlanarIs_t d (hdcrs.mono S4.Uw) (hn) (hab) S4.lend) ?_)))
  intro vw6 w6 M1 hle1 S6 hRw6; clear S4
  replace hdcrs := hdcrs.mono (Hp.Ua hle1 S6.mx)
  obtain rfl := hRw6
  refine wlg 6 7 rfl rfl rfl rfl rfl rfl rfl rfl (Ub rfl rfl (U1j rfl rfl) (mvs 7 1 rfl rfl (U5 rfl (nmk [2, 3, 4, 14] rfl (U4 ?_)))))
  refine U19 Z1hx Z1hy rfl rfl rfl rfl (fun hb14 => ?_) (fun hb14 => ?_)
  ·simp only [Bool.and_eq_true, Bool.or_eq_true, Bool.and_eq_false_iff, Bool.or_eq_false_iff, decide_eq_true_eq, decide_eq_false_iff_not, Bool.not_eq_true', Bool.not_eq_false'] at hb14
   refine U2 Z1hz Z1i0 rfl rfl rfl (U1 rfl (wlr 0 rfl (run_build (l := [_, _]) rfl rfl st24 rfl rfl) (wlo 1 2 rfl rfl rfl (U7 (i := 0) (us := [_, _]) (l' := [_, _]) (H' := [_, _, _]) rfl rfl S6 rfl rfl rfl rfl sz24 rfl rfl rfl rfl ?_))))
   intro w7 S7; clear S6
   refine mvs 2 1 rfl rfl (U5 rfl (nmk [4, 5] rfl (U4 (Uk hC [_, _] rfl rfl ⟨⟨_, rfl, Up (us := [_, _]) uT24 rfl sz24 (S7.boxcs (i := 0) rfl ⟨rfl, rfl, trivial⟩)⟩, rfl, trivial⟩ ?_))))
   refine ⟨_, rfl, _, hle1, (S7.pick [] [] (by decide) trivial), ?_⟩
   rw [show doP d m = (⟨[], 0⟩, 7) from by unfold doP; rw [if_pos (by first | exact opB_not hg10 hb14 | (unfold opB; rw [hg10]; rfl))]]
   exact U1z 7
  ·simp only [Bool.and_eq_true, Bool.or_eq_true, Bool.and_eq_false_iff, Bool.or_eq_false_iff, decide_eq_true_eq, decide_eq_false_iff_not, Bool.not_eq_true', Bool.not_eq_false'] at hb14
   have hop : opB d = true := opB_of hg10 (by simpa using hb14)
   refine Uf rfl (nmk [2, 3, 4] rfl (U4 (U2 Z1i1 Z1i2 rfl rfl rfl (U1 rfl (wlr 0 rfl (U0 rfl rfl uT24 rfl (ce22) (nf22)) (wlr 1 rfl (U3 rfl rfl uT22 rfl (S6.boxc (i := 2) rfl rfl)) (wlr 2 rfl (U1f rfl rfl rfl rfl rfl rfl uT22) (mvs 3 1 rfl rfl ?_))))))))
   refine U5 rfl (nmk [2, 3, 4, 6] rfl (U4 (U2 Z1i3 Z1i4 rfl rfl rfl (U2 Z1i5 Z1i6 rfl rfl rfl (U1 rfl (wlr 0 rfl (U0 rfl rfl uT28 rfl (ce3) (nf3)) (wlr 1 rfl (U3 rfl rfl uT3 rfl (S6.boxc (i := 1) rfl rfl)) (U5 rfl ?_))))))))
   refine nmk [2, 3, 4, 6, 20] rfl (U4 (Uc Z1i7 0 rfl rfl rfl (U2 Z1i8 Z1i9 rfl rfl rfl (U1 rfl (wlr 0 rfl (Uz rfl rfl rfl) (mvs 1 1 rfl rfl (U5 rfl (nmk [2, 3, 4, 6, 20, 21] rfl ?_))))))))
   refine U4 ?_
   refine Ue Z1ia Z1ib rfl rfl rfl rfl (fun hb21 => ?_) (fun hb21 => ?_)
   ·refine U2 Z1ic Z1id rfl rfl rfl (U1 rfl (wlr 0 rfl (U8 (us := [_, _]) rfl rfl uT24 rfl sz24 (S6.boxcs (i := 2) rfl ⟨rfl, rfl, trivial⟩)) (wlr 1 rfl (U8 (us := [_, _, _, _, _, _, _, _]) rfl rfl uT28 rfl sz28 (S6.boxcs (i := 1) rfl ⟨rfl, rfl, rfl, rfl, rfl, rfl, rfl, rfl, trivial⟩)) (wlo 2 3 rfl rfl rfl (U2w rfl rfl rfl rfl rfl rfl rfl cf33 S6 (curlOf_t d m (hdcrs.mono S6.Uw) hn hab hlo S6.lend) ?_)))))
    intro vw8 w8 M2 hle2 S8 hRw8; clear S6
    replace hdcrs := hdcrs.mono (Hp.Ua hle2 S8.mx)
    obtain ⟨A1, c1, rfl, hr1⟩ := hRw8
    refine wlr 3 rfl (Ul rfl rfl rfl) (wlr 4 rfl (Ul rfl rfl rfl) (wlo 5 6 rfl rfl rfl (U7 (i := 0) (us := [_, _]) (l' := [_, _]) (H' := [_, _, _]) rfl rfl S8 rfl rfl rfl rfl sz24 rfl rfl rfl rfl ?_)))
    intro w9 S9; clear S8
    refine mvs 6 1 rfl rfl (U5 rfl (nmk [4, 5] rfl (U4 (Uk hC [_, _] rfl rfl ⟨⟨_, rfl, Up (us := [_, _]) uT24 rfl sz24 (S9.boxcs (i := 0) rfl ⟨rfl, rfl, trivial⟩)⟩, rfl, trivial⟩ ?_))))
    refine ⟨_, rfl, _, hle1.trans hle2, (S9.pick [] [] (by decide) trivial), ?_⟩
    rw [doP_1 hop hb21]
    exact ⟨_, _, rfl, hr1⟩
   ·refine U2 Z1ie Z1if rfl rfl rfl (U1 rfl (wlr 0 rfl (Uz rfl rfl rfl) (mvs 1 1 rfl rfl (U5 rfl (nmk [2, 3, 4, 6, 20, 28] rfl (U4 ?_))))))
    refine Ue Z1ig Z1ih rfl rfl rfl rfl (fun hb28 => ?_) (fun hb28 => ?_)
    ·refine U2 Z1ii Z1ij rfl rfl rfl (U2 Z1ik Z1il rfl rfl rfl (U1 rfl (wlr 0 rfl (U0 rfl rfl uT28 rfl (ce3) (nf3)) (wlr 1 rfl (U3 rfl rfl uT3 rfl (S6.boxc (i := 1) rfl rfl)) (wlr 2 rfl (U17 rfl rfl rfl) (mvs 3 1 rfl rfl ?_))))))
     refine Ut (t := 33) rfl (fun hg33 => ?_) (fun hg33 => ?_)
     ·refine mvs 4 5 rfl rfl (U5 rfl (nmk [2, 3, 4, 38] rfl (U4 (U1h Z1im rfl rfl rfl (U2 Z1io Z1ip rfl rfl rfl (U1 rfl (wlr 0 rfl (run_build (l := [_, _]) rfl rfl st24 rfl rfl) (wlo 1 2 rfl rfl rfl (U7 (i := 0) (us := [_, _]) (l' := [_, _]) (H' := [_, _, _]) rfl rfl S6 rfl rfl rfl rfl sz24 rfl rfl rfl rfl ?_)))))))))
      intro w10 S10; clear S6
      refine mvs 2 1 rfl rfl (U5 rfl (nmk [4, 5] rfl (U4 (Uk hC [_, _] rfl rfl ⟨⟨_, rfl, Up (us := [_, _]) uT24 rfl sz24 (S10.boxcs (i := 0) rfl ⟨rfl, rfl, trivial⟩)⟩, rfl, trivial⟩ ?_))))
      refine ⟨_, rfl, _, hle1, (S10.pick [] [] (by decide) trivial), ?_⟩
      rw [doP_2 hop hb28]
      rw [U26 (c := 3) (by unfold uncE; rw [if_neg (by omega)]) (by decide)]
      exact U1z 3
     ·refine wlg 4 5 rfl rfl rfl rfl rfl rfl rfl rfl (Ub rfl rfl (U0 rfl rfl uT28 rfl (ce3) (nf3)) (wlg 5 6 rfl rfl rfl rfl rfl rfl rfl rfl (Ub rfl rfl (U3 rfl rfl uT3 rfl (S6.boxc (i := 1) rfl rfl)) (mvs 6 1 rfl rfl (wlg 7 8 rfl rfl rfl rfl rfl rfl rfl rfl (Ub rfl rfl (U2q rfl rfl rfl) (mvs 8 1 rfl rfl (U5 rfl (nmk [2, 3, 4, 38] rfl (U4 ?_))))))))))
      refine Ue Z1im Z1in rfl rfl rfl rfl (fun hb38 => ?_) (fun hb38 => ?_)
      ·refine U2 Z1io Z1ip rfl rfl rfl (U1 rfl (wlr 0 rfl (run_build (l := [_, _]) rfl rfl st24 rfl rfl) (wlo 1 2 rfl rfl rfl (U7 (i := 0) (us := [_, _]) (l' := [_, _]) (H' := [_, _, _]) rfl rfl S6 rfl rfl rfl rfl sz24 rfl rfl rfl rfl ?_))))
       intro w11 S11; clear S6
       refine mvs 2 1 rfl rfl (U5 rfl (nmk [4, 5] rfl (U4 (Uk hC [_, _] rfl rfl ⟨⟨_, rfl, Up (us := [_, _]) uT24 rfl sz24 (S11.boxcs (i := 0) rfl ⟨rfl, rfl, trivial⟩)⟩, rfl, trivial⟩ ?_))))
       refine ⟨_, rfl, _, hle1, (S11.pick [] [] (by decide) trivial), ?_⟩
       rw [doP_2 hop hb28]
       rw [U26 (c := 3) (by unfold uncE; rw [if_neg (by omega)]) (by decide)]
       exact U1z 3
      ·refine Uf rfl (nmk [2, 3, 4] rfl (U4 (U2 Z1iq Z1ir rfl rfl rfl (U2 Z1is Z1it rfl rfl rfl (U1 rfl (wlr 0 rfl (U8 (us := [_, _]) rfl rfl uT24 rfl sz24 (S6.boxcs (i := 2) rfl ⟨rfl, rfl, trivial⟩)) (wlr 1 rfl (U0 rfl rfl uT28 rfl (ce3) (nf3)) (wlr 2 rfl (U3 rfl rfl uT3 rfl (S6.boxc (i := 1) rfl rfl)) ?_))))))))
       refine U1t 42 (.int .i64 ((m.at_.toNat : Nat) : Int)) rfl (int_eq (by omega)) ?_
       refine wlo 3 4 rfl rfl rfl (U20 rfl rfl rfl rfl rfl rfl rfl cf34 S6 (curlAt_q d m.at_.toNat (hdcrs.mono S6.Uw) (by omega) S6.lend) ?_)
       rintro _ w12 S12 rfl; clear S6
       refine wlr 4 rfl (U1j rfl rfl) (U5 rfl (nmk [2, 3, 4, 44] rfl (U4 ?_)))
       refine U19 Z1iu Z1iv rfl rfl rfl rfl (fun hb44 => ?_) (fun hb44 => ?_)
       ·simp only [Bool.and_eq_true, Bool.or_eq_true, Bool.and_eq_false_iff, Bool.or_eq_false_iff, decide_eq_true_eq, decide_eq_false_iff_not, Bool.not_eq_true', Bool.not_eq_false'] at hb44
        refine U2 Z1iw Z1ix rfl rfl rfl (U1 rfl (wlr 0 rfl (run_build (l := [_, _]) rfl rfl st24 rfl rfl) (wlo 1 2 rfl rfl rfl (U7 (i := 0) (us := [_, _]) (l' := [_, _]) (H' := [_, _, _]) rfl rfl S12 rfl rfl rfl rfl sz24 rfl rfl rfl rfl ?_))))
        intro w13 S13; clear S12
        refine mvs 2 1 rfl rfl (U5 rfl (nmk [4, 5] rfl (U4 (Uk hC [_, _] rfl rfl ⟨⟨_, rfl, Up (us := [_, _]) uT24 rfl sz24 (S13.boxcs (i := 0) rfl ⟨rfl, rfl, trivial⟩)⟩, rfl, trivial⟩ ?_))))
        refine ⟨_, rfl, _, hle1, (S13.pick [] [] (by decide) trivial), ?_⟩
        rw [doP_2 hop hb28]
        rw [U26 (c := 8) (by unfold uncE; rw [if_pos (by omega), if_neg (by rw [hb44]; exact Bool.false_ne_true)]) (by decide)]
        exact U1z 8
       ·simp only [Bool.and_eq_true, Bool.or_eq_true, Bool.and_eq_false_iff, Bool.or_eq_false_iff, decide_eq_true_eq, decide_eq_false_iff_not, Bool.not_eq_true', Bool.not_eq_false'] at hb44
        refine Uf rfl (nmk [2, 3, 4] rfl (U4 (U2 Z1iy Z1iz rfl rfl rfl (U1 rfl (wlr 0 rfl (U8 (us := [_, _]) rfl rfl uT24 rfl sz24 (S12.boxcs (i := 2) rfl ⟨rfl, rfl, trivial⟩)) (wlr 1 rfl (U0 rfl rfl uT28 rfl (ce3) (nf3)) (wlr 2 rfl (U3 rfl rfl uT3 rfl (S12.boxc (i := 1) rfl rfl)) (U1t 48 (.int .i64 ((m.at_.toNat : Nat) : Int)) rfl (int_eq (by omega)) ?_))))))))
        refine wlo 3 4 rfl rfl rfl (U13 (C := Uv) (l := [_]) rfl rfl rfl rfl sl53 rfl rfl rfl rfl S12 ?_)
        intro gb4 w14 S14; clear S12
        have hr2 := S14.lendBox (C := Uv) (z := ((m.at_.toNat : Nat) : Int)) (i := 0) rfl rfl (by decide)
        have hcall1 := takenOut_t d ([((m.at_.toNat : Nat) : Int)]) (hdcrs.mono S14.Uw) hr2 (gs := [m.at_.toNat]) rfl (by intro x hx; simp at hx; omega) hn hab (by omega) S14.lend
        refine wlo 4 5 rfl rfl rfl (U2w rfl rfl rfl rfl rfl rfl rfl cf36 S14 (hcall1) ?_)
        intro vw15 w15 M3 hle3 S15 hRw15; clear S14
        replace hdcrs := hdcrs.mono (Hp.Ua hle3 S15.mx)
        obtain ⟨A2, c2, rfl, hr3⟩ := hRw15
        refine wlo 5 6 rfl rfl rfl (U2w rfl rfl rfl rfl rfl rfl rfl cf35 S15 (fewLoops_t (tkD d (inG [m.at_.toNat])) hr3 S15.lend) ?_)
        intro vw16 w16 M4 hle4 S16 hRw16; clear S15
        replace hdcrs := hdcrs.mono (Hp.Ua hle4 S16.mx)
        replace hr3 := hr3.mono hle4
        obtain ⟨A3, c3, rfl, hr4⟩ := hRw16
        refine wlr 6 rfl (Ul rfl rfl rfl) (wlr 7 rfl (Ul rfl rfl rfl) (wlo 8 9 rfl rfl rfl (U7 (i := 1) (us := [_, _]) (l' := [_, _]) (H' := [_, _, _, _]) rfl rfl S16 rfl rfl rfl rfl sz24 rfl rfl rfl rfl ?_)))
        intro w17 S17; clear S16
        refine mvs 9 1 rfl rfl (U5 rfl (nmk [4, 5] rfl (U4 (Uk hC [_, _] rfl rfl ⟨⟨_, rfl, Up (us := [_, _]) uT24 rfl sz24 (S17.boxcs (i := 1) rfl ⟨rfl, rfl, trivial⟩)⟩, rfl, trivial⟩ ?_))))
        refine ⟨_, rfl, _, (hle1.trans hle3).trans hle4, (S17.pick [] [] (by decide) trivial), ?_⟩
        rw [doP_2 hop hb28]
        rw [show uncE d m = (if (tkD d (inG [m.at_.toNat])).loops ≤ 16 then 0 else 2) from by unfold uncE takE; rw [if_pos (by omega), if_pos (by simpa using hb44)]]
        exact ⟨_, _, rfl, hr4⟩
    ·refine U2 Z1j0 Z1j1 rfl rfl rfl (U1 rfl (wlr 0 rfl (Uz rfl rfl rfl) (mvs 1 1 rfl rfl (U5 rfl (nmk [2, 3, 4, 6, 20, 54] rfl (U4 ?_))))))
     refine Ue Z1j2 Z1j3 rfl rfl rfl rfl (fun hb54 => ?_) (fun hb54 => ?_)
     ·refine U2 Z1j4 Z1j5 rfl rfl rfl (U1 rfl (wlr 0 rfl (U8 (us := [_, _]) rfl rfl uT24 rfl sz24 (S6.boxcs (i := 2) rfl ⟨rfl, rfl, trivial⟩)) (wlr 1 rfl (U8 (us := [_, _, _, _, _, _, _, _]) rfl rfl uT28 rfl sz28 (S6.boxcs (i := 1) rfl ⟨rfl, rfl, rfl, rfl, rfl, rfl, rfl, rfl, trivial⟩)) (wlo 2 3 rfl rfl rfl (U2w rfl rfl rfl rfl rfl rfl rfl cf37 S6 (pushOf_t d m (hdcrs.mono S6.Uw) hn hab hlo S6.lend) ?_)))))
      intro vw18 w18 M5 hle5 S18 hRw18; clear S6
      replace hdcrs := hdcrs.mono (Hp.Ua hle5 S18.mx)
      obtain ⟨A4, c4, rfl, hr5⟩ := hRw18
      refine wlr 3 rfl (Ul rfl rfl rfl) (wlr 4 rfl (Ul rfl rfl rfl) (wlo 5 6 rfl rfl rfl (U7 (i := 0) (us := [_, _]) (l' := [_, _]) (H' := [_, _, _]) rfl rfl S18 rfl rfl rfl rfl sz24 rfl rfl rfl rfl ?_)))
      intro w19 S19; clear S18
      refine mvs 6 1 rfl rfl (U5 rfl (nmk [4, 5] rfl (U4 (Uk hC [_, _] rfl rfl ⟨⟨_, rfl, Up (us := [_, _]) uT24 rfl sz24 (S19.boxcs (i := 0) rfl ⟨rfl, rfl, trivial⟩)⟩, rfl, trivial⟩ ?_))))
      refine ⟨_, rfl, _, hle1.trans hle5, (S19.pick [] [] (by decide) trivial), ?_⟩
      rw [doP_3 hop hb54]
      exact ⟨_, _, rfl, hr5⟩
     ·refine U2 Z1j6 Z1j7 rfl rfl rfl (U1 rfl (wlr 0 rfl (Uz rfl rfl rfl) (mvs 1 1 rfl rfl (U5 rfl (nmk [2, 3, 4, 6, 20, 61] rfl (U4 ?_))))))
      refine Ue Z1j8 Z1j9 rfl rfl rfl rfl (fun hb61 => ?_) (fun hb61 => ?_)
      ·refine U2 Z1ja Z1jb rfl rfl rfl (U2 Z1jc Z1jd rfl rfl rfl (U1 rfl (wlr 0 rfl (U0 rfl rfl uT28 rfl (ce3) (nf3)) (wlr 1 rfl (U3 rfl rfl uT3 rfl (S6.boxc (i := 1) rfl rfl)) (wlr 2 rfl (U17 rfl rfl rfl) (mvs 3 1 rfl rfl ?_))))))
       refine Ut (t := 66) rfl (fun hg66 => ?_) (fun hg66 => ?_)
       ·refine mvs 4 6 rfl rfl (mvs 10 6 rfl rfl (mvs 16 6 rfl rfl (mvs 22 5 rfl rfl (U5 rfl (nmk [2, 3, 4, 89] rfl (U4 (U1h Z1je rfl rfl rfl (U2 Z1jg Z1jh rfl rfl rfl ?_))))))))
        refine U1 rfl (wlr 0 rfl (run_build (l := [_, _]) rfl rfl st24 rfl rfl) (wlo 1 2 rfl rfl rfl (U7 (i := 0) (us := [_, _]) (l' := [_, _]) (H' := [_, _, _]) rfl rfl S6 rfl rfl rfl rfl sz24 rfl rfl rfl rfl ?_)))
        intro w20 S20; clear S6
        refine mvs 2 1 rfl rfl (U5 rfl (nmk [4, 5] rfl (U4 (Uk hC [_, _] rfl rfl ⟨⟨_, rfl, Up (us := [_, _]) uT24 rfl sz24 (S20.boxcs (i := 0) rfl ⟨rfl, rfl, trivial⟩)⟩, rfl, trivial⟩ ?_))))
        refine ⟨_, rfl, _, hle1, (S20.pick [] [] (by decide) trivial), ?_⟩
        rw [doP_4 hop hb61]
        rw [U26 (c := 3) (by unfold plE; rw [if_neg (by omega)]) (by decide)]
        exact U1z 3
       ·refine wlg 4 5 rfl rfl rfl rfl rfl rfl rfl rfl (Ub rfl rfl (U0 rfl rfl uT28 rfl (ce3) (nf3)) (wlg 5 6 rfl rfl rfl rfl rfl rfl rfl rfl (Ub rfl rfl (U3 rfl rfl uT3 rfl (S6.boxc (i := 1) rfl rfl)) (mvs 6 1 rfl rfl (wlg 7 8 rfl rfl rfl rfl rfl rfl rfl rfl (Ub rfl rfl (U2q rfl rfl rfl) (mvs 8 2 rfl rfl ?_)))))))
        refine Ut (t := 72) rfl (fun hg72 => ?_) (fun hg72 => ?_)
        ·refine mvs 10 6 rfl rfl (mvs 16 6 rfl rfl (mvs 22 5 rfl rfl (U5 rfl (nmk [2, 3, 4, 89] rfl (U4 (U1h Z1je rfl rfl rfl (U2 Z1jg Z1jh rfl rfl rfl (U1 rfl ?_))))))))
         refine wlr 0 rfl (run_build (l := [_, _]) rfl rfl st24 rfl rfl) (wlo 1 2 rfl rfl rfl (U7 (i := 0) (us := [_, _]) (l' := [_, _]) (H' := [_, _, _]) rfl rfl S6 rfl rfl rfl rfl sz24 rfl rfl rfl rfl ?_))
         intro w21 S21; clear S6
         refine mvs 2 1 rfl rfl (U5 rfl (nmk [4, 5] rfl (U4 (Uk hC [_, _] rfl rfl ⟨⟨_, rfl, Up (us := [_, _]) uT24 rfl sz24 (S21.boxcs (i := 0) rfl ⟨rfl, rfl, trivial⟩)⟩, rfl, trivial⟩ ?_))))
         refine ⟨_, rfl, _, hle1, (S21.pick [] [] (by decide) trivial), ?_⟩
         rw [doP_4 hop hb61]
         rw [U26 (c := 3) (by unfold plE; rw [if_neg (by omega)]) (by decide)]
         exact U1z 3
        ·refine wlg 10 11 rfl rfl rfl rfl rfl rfl rfl rfl (Ub rfl rfl (U0 rfl rfl uT28 rfl (ce3) (nf3)) (wlg 11 12 rfl rfl rfl rfl rfl rfl rfl rfl (Ub rfl rfl (U3 rfl rfl uT3 rfl (S6.boxc (i := 1) rfl rfl)) (wlg 12 13 rfl rfl rfl rfl rfl rfl rfl rfl (Ub rfl rfl (U17 rfl rfl rfl) (mvs 13 2 rfl rfl ?_))))))
         refine Ut (t := 77) rfl (fun hg77 => ?_) (fun hg77 => ?_)
         ·refine mvs 15 6 rfl rfl (mvs 21 6 rfl rfl (U5 rfl (nmk [2, 3, 4, 89] rfl (U4 (U1h Z1je rfl rfl rfl (U2 Z1jg Z1jh rfl rfl rfl (U1 rfl (wlr 0 rfl (run_build (l := [_, _]) rfl rfl st24 rfl rfl) ?_))))))))
          refine wlo 1 2 rfl rfl rfl (U7 (i := 0) (us := [_, _]) (l' := [_, _]) (H' := [_, _, _]) rfl rfl S6 rfl rfl rfl rfl sz24 rfl rfl rfl rfl ?_)
          intro w22 S22; clear S6
          refine mvs 2 1 rfl rfl (U5 rfl (nmk [4, 5] rfl (U4 (Uk hC [_, _] rfl rfl ⟨⟨_, rfl, Up (us := [_, _]) uT24 rfl sz24 (S22.boxcs (i := 0) rfl ⟨rfl, rfl, trivial⟩)⟩, rfl, trivial⟩ ?_))))
          refine ⟨_, rfl, _, hle1, (S22.pick [] [] (by decide) trivial), ?_⟩
          rw [doP_4 hop hb61]
          rw [U26 (c := 3) (by unfold plE; rw [if_neg (by omega)]) (by decide)]
          exact U1z 3
         ·refine wlg 15 16 rfl rfl rfl rfl rfl rfl rfl rfl (Ub rfl rfl (U0 rfl rfl uT28 rfl (ce3) (nf3)) (wlg 16 17 rfl rfl rfl rfl rfl rfl rfl rfl (Ub rfl rfl (U3 rfl rfl uT3 rfl (S6.boxc (i := 1) rfl rfl)) (mvs 17 1 rfl rfl (wlg 18 19 rfl rfl rfl rfl rfl rfl rfl rfl (Ub rfl rfl (U2q rfl rfl rfl) (mvs 19 2 rfl rfl ?_)))))))
          refine Ut (t := 83) rfl (fun hg83 => ?_) (fun hg83 => ?_)
          ·refine mvs 21 6 rfl rfl (U5 rfl (nmk [2, 3, 4, 89] rfl (U4 (U1h Z1je rfl rfl rfl (U2 Z1jg Z1jh rfl rfl rfl (U1 rfl (wlr 0 rfl (run_build (l := [_, _]) rfl rfl st24 rfl rfl) (wlo 1 2 rfl rfl rfl (U7 (i := 0) (us := [_, _]) (l' := [_, _]) (H' := [_, _, _]) rfl rfl S6 rfl rfl rfl rfl sz24 rfl rfl rfl rfl ?_)))))))))
           intro w23 S23; clear S6
           refine mvs 2 1 rfl rfl (U5 rfl (nmk [4, 5] rfl (U4 (Uk hC [_, _] rfl rfl ⟨⟨_, rfl, Up (us := [_, _]) uT24 rfl sz24 (S23.boxcs (i := 0) rfl ⟨rfl, rfl, trivial⟩)⟩, rfl, trivial⟩ ?_))))
           refine ⟨_, rfl, _, hle1, (S23.pick [] [] (by decide) trivial), ?_⟩
           rw [doP_4 hop hb61]
           rw [U26 (c := 3) (by unfold plE; rw [if_neg (by omega)]) (by decide)]
           exact U1z 3
          ·refine wlg 21 22 rfl rfl rfl rfl rfl rfl rfl rfl (Ub rfl rfl (U0 rfl rfl uT28 rfl (ce3) (nf3)) (wlg 22 23 rfl rfl rfl rfl rfl rfl rfl rfl (Ub rfl rfl (U3 rfl rfl uT3 rfl (S6.boxc (i := 1) rfl rfl)) (wlg 23 24 rfl rfl rfl rfl rfl rfl rfl rfl (Ub rfl rfl (U0 rfl rfl uT28 rfl (ce3) (nf3)) (wlg 24 25 rfl rfl rfl rfl rfl rfl rfl rfl (Ub rfl rfl (U3 rfl rfl uT3 rfl (S6.boxc (i := 1) rfl rfl)) (wlg 25 26 rfl rfl rfl rfl rfl rfl rfl rfl (Ub rfl rfl (Uz rfl rfl rfl) (mvs 26 1 rfl rfl (U5 rfl (nmk [2, 3, 4, 89] rfl (U4 ?_)))))))))))))
           refine Ue Z1je Z1jf rfl rfl rfl rfl (fun hb89 => ?_) (fun hb89 => ?_)
           ·refine U2 Z1jg Z1jh rfl rfl rfl (U1 rfl (wlr 0 rfl (run_build (l := [_, _]) rfl rfl st24 rfl rfl) (wlo 1 2 rfl rfl rfl (U7 (i := 0) (us := [_, _]) (l' := [_, _]) (H' := [_, _, _]) rfl rfl S6 rfl rfl rfl rfl sz24 rfl rfl rfl rfl ?_))))
            intro w24 S24; clear S6
            refine mvs 2 1 rfl rfl (U5 rfl (nmk [4, 5] rfl (U4 (Uk hC [_, _] rfl rfl ⟨⟨_, rfl, Up (us := [_, _]) uT24 rfl sz24 (S24.boxcs (i := 0) rfl ⟨rfl, rfl, trivial⟩)⟩, rfl, trivial⟩ ?_))))
            refine ⟨_, rfl, _, hle1, (S24.pick [] [] (by decide) trivial), ?_⟩
            rw [doP_4 hop hb61]
            rw [U26 (c := 3) (by unfold plE; rw [if_neg (by omega)]) (by decide)]
            exact U1z 3
           ·refine Uf rfl (nmk [2, 3, 4] rfl (U4 (U2 Z1ji Z1jj rfl rfl rfl (U2 Z1jk Z1jl rfl rfl rfl (U1 rfl (wlr 0 rfl (U8 (us := [_, _]) rfl rfl uT24 rfl sz24 (S6.boxcs (i := 2) rfl ⟨rfl, rfl, trivial⟩)) (wlr 1 rfl (U0 rfl rfl uT28 rfl (ce3) (nf3)) (wlr 2 rfl (U3 rfl rfl uT3 rfl (S6.boxc (i := 1) rfl rfl)) ?_))))))))
            refine wlr 3 rfl (U0 rfl rfl uT28 rfl (ce3) (nf3)) (wlr 4 rfl (U3 rfl rfl uT3 rfl (S6.boxc (i := 1) rfl rfl)) (wlo 5 6 rfl rfl rfl (U2w rfl rfl rfl rfl rfl rfl rfl cf38 S6 (pullable_t d m.at_ m.by_ (hdcrs.mono S6.Uw) hn hab S6.lend) ?_)))
            intro vw25 w25 M6 hle6 S25 hRw25; clear S6
            replace hdcrs := hdcrs.mono (Hp.Ua hle6 S25.mx)
            obtain rfl := hRw25
            refine wlr 6 rfl (U1j rfl rfl) (U5 rfl (nmk [2, 3, 4, 97] rfl (U4 ?_)))
            refine U19 Z1jm Z1jn rfl rfl rfl rfl (fun hb97 => ?_) (fun hb97 => ?_)
            ·simp only [Bool.and_eq_true, Bool.or_eq_true, Bool.and_eq_false_iff, Bool.or_eq_false_iff, decide_eq_true_eq, decide_eq_false_iff_not, Bool.not_eq_true', Bool.not_eq_false'] at hb97
             refine U2 Z1jo Z1jp rfl rfl rfl (U1 rfl (wlr 0 rfl (run_build (l := [_, _]) rfl rfl st24 rfl rfl) (wlo 1 2 rfl rfl rfl (U7 (i := 0) (us := [_, _]) (l' := [_, _]) (H' := [_, _, _]) rfl rfl S25 rfl rfl rfl rfl sz24 rfl rfl rfl rfl ?_))))
             intro w26 S26; clear S25
             refine mvs 2 1 rfl rfl (U5 rfl (nmk [4, 5] rfl (U4 (Uk hC [_, _] rfl rfl ⟨⟨_, rfl, Up (us := [_, _]) uT24 rfl sz24 (S26.boxcs (i := 0) rfl ⟨rfl, rfl, trivial⟩)⟩, rfl, trivial⟩ ?_))))
             refine ⟨_, rfl, _, hle1.trans hle6, (S26.pick [] [] (by decide) trivial), ?_⟩
             rw [doP_4 hop hb61]
             rw [U26 (c := 8) (by unfold plE; rw [if_pos (by omega), if_neg (by rw [hb97]; exact Bool.false_ne_true)]) (by decide)]
             exact U1z 8
            ·simp only [Bool.and_eq_true, Bool.or_eq_true, Bool.and_eq_false_iff, Bool.or_eq_false_iff, decide_eq_true_eq, decide_eq_false_iff_not, Bool.not_eq_true', Bool.not_eq_false'] at hb97
             refine Uf rfl (nmk [2, 3, 4] rfl (U4 (U2 Z1jq Z1jr rfl rfl rfl (U1 rfl (wlr 0 rfl (U8 (us := [_, _]) rfl rfl uT24 rfl sz24 (S25.boxcs (i := 2) rfl ⟨rfl, rfl, trivial⟩)) (wlr 1 rfl (U0 rfl rfl uT28 rfl (ce3) (nf3)) (wlr 2 rfl (U3 rfl rfl uT3 rfl (S25.boxc (i := 1) rfl rfl)) (wlr 3 rfl (U0 rfl rfl uT28 rfl (ce3) (nf3)) ?_))))))))
             refine wlr 4 rfl (U3 rfl rfl uT3 rfl (S25.boxc (i := 1) rfl rfl)) (U1t 101 (.int .i64 ((m.at_.toNat : Nat) : Int)) rfl (int_eq (by omega)) ?_)
             refine U1t 103 (.int .i64 ((m.by_.toNat : Nat) : Int)) rfl (int_eq (by omega)) ?_
             refine wlo 5 6 rfl rfl rfl (U2g (C := Uv) (l := [_, _]) (pl := [(0, 1), (1, 1)]) rfl rfl rfl rfl sl53 rfl rfl rfl rfl rfl S25 ?_)
             intro gb5 w28 S28; clear S25
             have hr6 := S28.lendBoxN (C := Uv) (zs := [((m.at_.toNat : Nat) : Int), ((m.by_.toNat : Nat) : Int)]) (i := 0) rfl rfl (by show 2 * _ ≤ _; decide)
             have hcall2 := takenOut_t d ([((m.at_.toNat : Nat) : Int), ((m.by_.toNat : Nat) : Int)]) (hdcrs.mono S28.Uw) hr6 (gs := [m.at_.toNat, m.by_.toNat]) rfl (by intro x hx; simp at hx; omega) hn hab (by omega) S28.lend
             refine wlo 6 7 rfl rfl rfl (U2w rfl rfl rfl rfl rfl rfl rfl cf36 S28 (hcall2) ?_)
             intro vw29 w29 M7 hle7 S29 hRw29; clear S28
             replace hdcrs := hdcrs.mono (Hp.Ua hle7 S29.mx)
             obtain ⟨A5, c5, rfl, hr7⟩ := hRw29
             refine wlo 7 8 rfl rfl rfl (U2w rfl rfl rfl rfl rfl rfl rfl cf35 S29 (fewLoops_t (tkD d (inG [m.at_.toNat, m.by_.toNat])) hr7 S29.lend) ?_)
             intro vw30 w30 M8 hle8 S30 hRw30; clear S29
             replace hdcrs := hdcrs.mono (Hp.Ua hle8 S30.mx)
             replace hr7 := hr7.mono hle8
             obtain ⟨A6, c6, rfl, hr8⟩ := hRw30
             refine wlr 8 rfl (Ul rfl rfl rfl) (wlr 9 rfl (Ul rfl rfl rfl) (wlo 10 11 rfl rfl rfl (U7 (i := 1) (us := [_, _]) (l' := [_, _]) (H' := [_, _, _, _]) rfl rfl S30 rfl rfl rfl rfl sz24 rfl rfl rfl rfl ?_)))
             intro w31 S31; clear S30
             refine mvs 11 1 rfl rfl (U5 rfl (nmk [4, 5] rfl (U4 (Uk hC [_, _] rfl rfl ⟨⟨_, rfl, Up (us := [_, _]) uT24 rfl sz24 (S31.boxcs (i := 1) rfl ⟨rfl, rfl, trivial⟩)⟩, rfl, trivial⟩ ?_))))
             refine ⟨_, rfl, _, ((hle1.trans hle6).trans hle7).trans hle8, (S31.pick [] [] (by decide) trivial), ?_⟩
             rw [doP_4 hop hb61]
             rw [show plE d m = (if (tkD d (inG [m.at_.toNat, m.by_.toNat])).loops ≤ 16 then 0 else 2) from by unfold plE takE; rw [if_pos (by omega), if_pos (by simpa using hb97)]]
             exact ⟨_, _, rfl, hr8⟩
      ·refine U2 Z1js Z1jt rfl rfl rfl (U1 rfl (wlr 0 rfl (Uz rfl rfl rfl) (mvs 1 1 rfl rfl (U5 rfl (nmk [2, 3, 4, 109] rfl (U4 ?_))))))
       refine Ue Z1ju Z1jv rfl rfl rfl rfl (fun hb109 => ?_) (fun hb109 => ?_)
       ·refine U2 Z1jw Z1jx rfl rfl rfl (U1 rfl (wlr 0 rfl (U8 (us := [_, _]) rfl rfl uT24 rfl sz24 (S6.boxcs (i := 2) rfl ⟨rfl, rfl, trivial⟩)) (wlr 1 rfl (U0 rfl rfl uT28 rfl (ce3) (nf3)) (wlr 2 rfl (U3 rfl rfl uT3 rfl (S6.boxc (i := 1) rfl rfl)) (wlo 3 4 rfl rfl rfl (U2w rfl rfl rfl rfl rfl rfl rfl cf39 S6 (slideOf_t d m (hdcrs.mono S6.Uw) hn hab S6.lend) ?_))))))
        intro vw32 w32 M9 hle9 S32 hRw32; clear S6
        replace hdcrs := hdcrs.mono (Hp.Ua hle9 S32.mx)
        obtain ⟨A7, c7, rfl, hr9⟩ := hRw32
        refine wlr 4 rfl (Ul rfl rfl rfl) (wlr 5 rfl (Ul rfl rfl rfl) (wlo 6 7 rfl rfl rfl (U7 (i := 0) (us := [_, _]) (l' := [_, _]) (H' := [_, _, _]) rfl rfl S32 rfl rfl rfl rfl sz24 rfl rfl rfl rfl ?_)))
        intro w33 S33; clear S32
        refine mvs 7 1 rfl rfl (U5 rfl (nmk [4, 5] rfl (U4 (Uk hC [_, _] rfl rfl ⟨⟨_, rfl, Up (us := [_, _]) uT24 rfl sz24 (S33.boxcs (i := 0) rfl ⟨rfl, rfl, trivial⟩)⟩, rfl, trivial⟩ ?_))))
        refine ⟨_, rfl, _, hle1.trans hle9, (S33.pick [] [] (by decide) trivial), ?_⟩
        rw [doP_5 hop hb109]
        exact ⟨_, _, rfl, hr9⟩
       ·refine Uf rfl (U12 (nmk [4] rfl (U4 (U2 Z1jy Z1jz rfl rfl rfl (U1 rfl (wlr 0 rfl (run_build (l := [_, _]) rfl rfl st24 rfl rfl) (wlo 1 2 rfl rfl rfl (U7 (i := 0) (us := [_, _]) (l' := [_, _]) (H' := [_, _, _]) rfl rfl S6 rfl rfl rfl rfl sz24 rfl rfl rfl rfl ?_))))))))
        intro w34 S34; clear S6
        refine mvs 2 1 rfl rfl (U5 rfl (nmk [4, 5] rfl (U4 (Uk hC [_, _] rfl rfl ⟨⟨_, rfl, Up (us := [_, _]) uT24 rfl sz24 (S34.boxcs (i := 0) rfl ⟨rfl, rfl, trivial⟩)⟩, rfl, trivial⟩ ?_))))
        refine ⟨_, rfl, _, hle1, (S34.pick [] [] (by decide) trivial), ?_⟩
        rw [show doP d m = (⟨[], 0⟩, 6) from by unfold doP; rw [if_neg (by rw [hop]; decide), if_pos (kindF_none hb21 hb28 hb54 hb61 hb109)]]
        exact U1z 6
noncomputable def Z1k0:=Tryz.f3.body.getD .skip
def Z1k1 := cL Z1k0
def Z1k2 := cR Z1k0
def Z1k3 := cL Z1k2
def Z1k4 := cR Z1k2
def Z1k5 := cL Z1k4
def Z1k6 := cR Z1k4
def Z1k7 := cL Z1k6
def Z1k8 := cR Z1k6
set_option maxRecDepth 10000 in
theorem MovesDo_t {w : World} {M : Hp} {X : Fr} (d : Dg) {dcrsA : Option Addr} {dcrsc : Nat} (m : Mv) (hdcrs : RdA cdCr M dcrsA dcrsc d.crs) (S : SH w M X []) : Ct Tryz.prog 3 [.agg [.slice dcrsA d.crs.length dcrsc, .int .i64 d.loops].toArray, .agg [.int .i64 m.kd, .int .i64 m.at_, .int .i64 m.by_, .int .i64 m.ua, .bool m.ub, .int .i64 m.va, .bool m.vb, .bool m.ov].toArray] w M X (fun u _ => u = .bool true) := by
 unfold Ct
 have rmhdcrs : d.crs.length * 40 ≤ 140737488355328 := hdcrs.room
 refine Uo (b := Z1k0) Tryz.func3 rfl Tryz.ntmps3 rfl (fun C hC => (U14 [(0, _), (1, _)] ⟨rfl, rfl, trivial⟩ (U2 Z1k1 Z1k2 rfl rfl rfl (U1 rfl (wlo 0 1 rfl rfl rfl (U18 (l := [_, _]) rfl rfl rfl rfl rfl S ?_))))))
 intro gb1 w1 S1; clear S
 refine wlo 1 2 rfl rfl rfl (U18 (l := [_, _, _, _, _, _, _, _]) rfl rfl rfl rfl rfl S1 ?_)
 intro gb2 w2 S2; clear S1
 refine mvs 2 1 rfl rfl (U5 rfl (nmk [2, 3] rfl (U4 (U2 Z1k3 Z1k4 rfl rfl rfl (Ux rfl (by kernel_rfl) S2 10 rfl ?_)))))
 clear S2
 refine wat 0 9 rfl (by kernel_rfl) (fun _ _ _ hz Sz => .inl (U8 (us := [_, _]) rfl rfl uT24 rfl sz24 (Sz.suf.boxcs (i := 1) rfl ⟨rfl, rfl, trivial⟩))) ?_
 refine wat 2 8 rfl (by kernel_rfl) (fun _ _ _ hz Sz => .inl (U8 (us := [_, _, _, _, _, _, _, _]) rfl rfl uT28 rfl sz28 (Sz.suf.boxcs (i := 0) rfl ⟨rfl, rfl, rfl, rfl, rfl, rfl, rfl, rfl, trivial⟩))) ?_
 refine wa_two (i := 1) (j := 7) 7 rfl rfl (by kernel_rfl) rfl rfl rfl rfl (fun w8 S8 => ?_) (fun w8 S8 => ?_)
 ·refine (U2w rfl rfl rfl rfl rfl rfl rfl cf9 S8 (DiagramOf_t d (hdcrs.mono (Hp.U1p _ _)) S8.lend) ?_)
  intro vw9 w9 M6 hle6 S9 hRw9; clear S8
  replace hdcrs := hdcrs.mono hle6
  obtain ⟨A1, c1, rfl, hr1⟩ := hRw9
  refine U10.grow [] (hle6) S9 ?_; clear S9
  change WA _ _ _ _ _ _ _ _ _ _ _ _ [_, _]
  refine wa_base ?_
  refine wa_two (i := 3) (j := 7) 6 rfl rfl (by kernel_rfl) rfl rfl rfl rfl (fun w12 S12 => ?_) (fun w12 S12 => ?_)
  ·refine (U2w rfl rfl rfl rfl rfl rfl rfl cf8 S12 (Do_t d m (hr1.mono (Hp.U1p _ _)) S12.lend) ?_)
   intro vw13 w13 M9 hle9 S13 hRw13; clear S12
   replace hdcrs := hdcrs.mono hle9
   replace hr1 := hr1.mono hle9
   obtain ⟨A2, c2, rfl, hr2⟩ := hRw13
   refine U10.grow [] (hle9) S13 ?_; clear S13
   change WA _ _ _ _ _ _ _ _ _ _ _ _ [_, _]
   refine wa_base (wap 4 5 rfl (by kernel_rfl) (fun _ => run_move rfl rfl) ?_)
   refine wap 5 4 rfl (by kernel_rfl) (fun _ => Ul rfl rfl rfl) ?_
   refine wap 6 3 rfl (by kernel_rfl) (fun _ => Ul rfl rfl rfl) ?_
   refine Um (i := 7) 2 rfl (by kernel_rfl) rfl rfl (fun w18 S18 => ?_)
   refine (Uh (l := [_, _]) rfl rfl rfl zr24 rfl S18 ?_)
   intro gb3 w19 S19; clear S18
   refine U10.grow [_] (Hp.le_refl _) S19 ?_; clear S19
   change WA _ _ _ _ _ _ _ _ _ _ _ _ [_, _, _]
   refine Um (i := 8) 1 rfl (by kernel_rfl) rfl rfl (fun w21 S21 => ?_)
   refine (U7 (i := 0) (us := [_, _]) (l' := [_, _]) (H' := [_, _, _]) rfl rfl S21 rfl rfl rfl rfl sz24 rfl rfl rfl rfl ?_)
   intro w22 S22; clear S21
   refine U10.grow [_] (Hp.le_refl _) S22 ?_; clear S22
   change WA _ _ _ _ _ _ _ _ _ _ _ _ [_, _, _]
   refine wap 9 0 rfl (by kernel_rfl) (fun _ => run_assign rfl rfl) ?_
   refine Uu (by kernel_rfl) (fun w24 S24 => ?_)
   refine nmk [2, 3, 5, 6] rfl (U4 (U2 Z1k5 Z1k6 rfl rfl rfl (U1 rfl (wlr 0 rfl (U8 (us := [_, _]) rfl rfl uT24 rfl sz24 (S24.boxcs (i := 2) rfl ⟨rfl, rfl, trivial⟩)) (wlr 1 rfl (U8 (us := [_, _, _, _, _, _, _, _]) rfl rfl uT28 rfl sz28 (S24.boxcs (i := 1) rfl ⟨rfl, rfl, rfl, rfl, rfl, rfl, rfl, rfl, trivial⟩)) (wlo 2 3 rfl rfl rfl (U2w rfl rfl rfl rfl rfl rfl rfl cf10 S24 (DoMove_t d m (hdcrs.mono (Hp.U1p _ _)) S24.lend) ?_)))))))
   intro vw25 w25 M16 hle16 S25 hRw25; clear S24
   replace hdcrs := hdcrs.mono hle16
   replace hr1 := hr1.mono hle16
   replace hr2 := hr2.mono hle16
   obtain ⟨A3, c3, rfl, hr3⟩ := hRw25
   refine mvs 3 1 rfl rfl (wlr 4 rfl (Ul rfl rfl rfl) (wlr 5 rfl (Ul rfl rfl rfl) (wlo 6 7 rfl rfl rfl (Uh (l := [_, _]) rfl rfl rfl zr24 rfl S25 ?_))))
   intro gb4 w26 S26; clear S25
   refine wlo 7 8 rfl rfl rfl (U7 (i := 0) (us := [_, _]) (l' := [_, _]) (H' := [_, _, _, _]) rfl rfl S26 rfl rfl rfl rfl sz24 rfl rfl rfl rfl ?_)
   intro w27 S27; clear S26
   refine mvs 8 1 rfl rfl (U5 rfl (nmk [5, 6, 7, 8] rfl (U4 (U2 Z1k7 Z1k8 rfl rfl rfl (U1 rfl (mvs 0 2 rfl rfl (wlr 2 rfl (Uz rfl rfl rfl) (mvs 3 1 rfl rfl ?_))))))))
   refine Ut (t := 25) rfl (fun hg25 => ?_) (fun hg25 => ?_)
   ·refine wlg 4 5 rfl rfl rfl rfl rfl rfl rfl rfl (Ub rfl rfl (U8 (us := [_, _]) rfl rfl uT24 rfl sz24 (S27.boxcs (i := 1) rfl ⟨rfl, rfl, trivial⟩)) (wlg 5 6 rfl rfl rfl rfl rfl rfl rfl rfl (Ub rfl rfl (U8 (us := [_, _]) rfl rfl uT24 rfl sz24 (S27.boxcs (i := 0) rfl ⟨rfl, rfl, trivial⟩)) (wlg 6 7 rfl rfl rfl rfl rfl rfl rfl rfl (U20 rfl rfl rfl rfl rfl rfl rfl cf11 S27 (SameDiagram_q ((doP d m).1) (hr2.mono (Hp.U1p _ _)) (hr3.mono (Hp.U1p _ _)) S27.lend) ?_)))))
    rintro _ w28 S28 rfl; clear S27
    refine mvs 7 2 rfl rfl (U5 rfl (nmk [4] rfl (U4 (Uk hC [_] rfl rfl ⟨rfl, trivial⟩ ?_))))
    refine ⟨_, rfl, _, (hle6.trans hle9).trans hle16, (S28.pick [] [] (by decide) trivial), ?_⟩
    show Value.bool _ = _
    simp
   ·exfalso; exact hg25 rfl
  ·refine (Uh (l := [_, _]) rfl rfl rfl zr24 rfl S12 ?_)
   intro gb5 w29 S29; clear S12
   refine U10.grow [_] (Hp.le_refl _) S29 ?_; clear S29
   change WA _ _ _ _ _ _ _ _ _ _ _ _ [_, _, _]
   refine Um (i := 3) 5 rfl (by kernel_rfl) rfl rfl (fun w31 S31 => ?_)
   refine (U2w rfl rfl rfl rfl rfl rfl rfl cf8 S31 (Do_t d m (hr1.mono (Hp.U1p _ _)) S31.lend) ?_)
   intro vw32 w32 M18 hle18 S32 hRw32; clear S31
   replace hdcrs := hdcrs.mono hle18
   replace hr1 := hr1.mono hle18
   obtain ⟨A4, c4, rfl, hr4⟩ := hRw32
   refine U10.grow [_] (hle18) S32 ?_; clear S32
   change WA _ _ _ _ _ _ _ _ _ _ _ _ [_, _, _]
   refine wa_base (wap 4 4 rfl (by kernel_rfl) (fun _ => run_move rfl rfl) ?_)
   refine wap 5 3 rfl (by kernel_rfl) (fun _ => Ul rfl rfl rfl) ?_
   refine wap 6 2 rfl (by kernel_rfl) (fun _ => Ul rfl rfl rfl) ?_
   refine Um (i := 8) 1 rfl (by kernel_rfl) rfl rfl (fun w37 S37 => ?_)
   refine (U7 (i := 0) (us := [_, _]) (l' := [_, _]) (H' := [_, _, _]) rfl rfl S37 rfl rfl rfl rfl sz24 rfl rfl rfl rfl ?_)
   intro w38 S38; clear S37
   refine U10.turn (by kernel_rfl) S38 ?_; clear S38
   change WA _ _ _ _ _ _ _ _ _ _ _ _ [_, _, _]
   refine wap 9 0 rfl (by kernel_rfl) (fun _ => run_assign rfl rfl) ?_
   refine Uu (by kernel_rfl) (fun w40 S40 => ?_)
   refine nmk [2, 3, 5, 6] rfl (U4 (U2 Z1k5 Z1k6 rfl rfl rfl (U1 rfl (wlr 0 rfl (U8 (us := [_, _]) rfl rfl uT24 rfl sz24 (S40.boxcs (i := 2) rfl ⟨rfl, rfl, trivial⟩)) (wlr 1 rfl (U8 (us := [_, _, _, _, _, _, _, _]) rfl rfl uT28 rfl sz28 (S40.boxcs (i := 1) rfl ⟨rfl, rfl, rfl, rfl, rfl, rfl, rfl, rfl, trivial⟩)) (wlo 2 3 rfl rfl rfl (U2w rfl rfl rfl rfl rfl rfl rfl cf10 S40 (DoMove_t d m (hdcrs.mono (Hp.U1p _ _)) S40.lend) ?_)))))))
   intro vw41 w41 M24 hle24 S41 hRw41; clear S40
   replace hdcrs := hdcrs.mono hle24
   replace hr1 := hr1.mono hle24
   replace hr4 := hr4.mono hle24
   obtain ⟨A5, c5, rfl, hr5⟩ := hRw41
   refine mvs 3 1 rfl rfl (wlr 4 rfl (Ul rfl rfl rfl) (wlr 5 rfl (Ul rfl rfl rfl) (wlo 6 7 rfl rfl rfl (Uh (l := [_, _]) rfl rfl rfl zr24 rfl S41 ?_))))
   intro gb6 w42 S42; clear S41
   refine wlo 7 8 rfl rfl rfl (U7 (i := 0) (us := [_, _]) (l' := [_, _]) (H' := [_, _, _, _]) rfl rfl S42 rfl rfl rfl rfl sz24 rfl rfl rfl rfl ?_)
   intro w43 S43; clear S42
   refine mvs 8 1 rfl rfl (U5 rfl (nmk [5, 6, 7, 8] rfl (U4 (U2 Z1k7 Z1k8 rfl rfl rfl (U1 rfl (mvs 0 2 rfl rfl (wlr 2 rfl (Uz rfl rfl rfl) (mvs 3 1 rfl rfl ?_))))))))
   refine Ut (t := 25) rfl (fun hg25 => ?_) (fun hg25 => ?_)
   ·refine wlg 4 5 rfl rfl rfl rfl rfl rfl rfl rfl (Ub rfl rfl (U8 (us := [_, _]) rfl rfl uT24 rfl sz24 (S43.boxcs (i := 1) rfl ⟨rfl, rfl, trivial⟩)) (wlg 5 6 rfl rfl rfl rfl rfl rfl rfl rfl (Ub rfl rfl (U8 (us := [_, _]) rfl rfl uT24 rfl sz24 (S43.boxcs (i := 0) rfl ⟨rfl, rfl, trivial⟩)) (wlg 6 7 rfl rfl rfl rfl rfl rfl rfl rfl (U20 rfl rfl rfl rfl rfl rfl rfl cf11 S43 (SameDiagram_q ((doP d m).1) (hr4.mono (Hp.U1p _ _)) (hr5.mono (Hp.U1p _ _)) S43.lend) ?_)))))
    rintro _ w44 S44 rfl; clear S43
    refine mvs 7 2 rfl rfl (U5 rfl (nmk [4] rfl (U4 (Uk hC [_] rfl rfl ⟨rfl, trivial⟩ ?_))))
    refine ⟨_, rfl, _, (hle6.trans hle18).trans hle24, (S44.pick [] [] (by decide) trivial), ?_⟩
    show Value.bool _ = _
    simp
   ·exfalso; exact hg25 rfl
 ·refine (Uh (l := [_, _]) rfl rfl rfl zr24 rfl S8 ?_)
  intro gb7 w45 S45; clear S8
  refine U10.grow [_] (Hp.le_refl _) S45 ?_; clear S45
  change WA _ _ _ _ _ _ _ _ _ _ _ _ [_, _, _]
  refine Um (i := 1) 6 rfl (by kernel_rfl) rfl rfl (fun w47 S47 => ?_)
  refine (U2w rfl rfl rfl rfl rfl rfl rfl cf9 S47 (DiagramOf_t d (hdcrs.mono (Hp.U1p _ _)) S47.lend) ?_)
  intro vw48 w48 M26 hle26 S48 hRw48; clear S47
  replace hdcrs := hdcrs.mono hle26
  obtain ⟨A6, c6, rfl, hr6⟩ := hRw48
  refine U10.grow [_] (hle26) S48 ?_; clear S48
  change WA _ _ _ _ _ _ _ _ _ _ _ _ [_, _, _]
  refine wa_base (Um (i := 3) 5 rfl (by kernel_rfl) rfl rfl (fun w50 S50 => ?_))
  refine (U2w rfl rfl rfl rfl rfl rfl rfl cf8 S50 (Do_t d m (hr6.mono (Hp.U1p _ _)) S50.lend) ?_)
  intro vw51 w51 M28 hle28 S51 hRw51; clear S50
  replace hdcrs := hdcrs.mono hle28
  replace hr6 := hr6.mono hle28
  obtain ⟨A7, c7, rfl, hr7⟩ := hRw51
  refine U10.grow [] (hle28) S51 ?_; clear S51
  change WA _ _ _ _ _ _ _ _ _ _ _ _ [_, _, _]
  refine wa_base (wap 4 4 rfl (by kernel_rfl) (fun _ => run_move rfl rfl) ?_)
  refine wap 5 3 rfl (by kernel_rfl) (fun _ => Ul rfl rfl rfl) ?_
  refine wap 6 2 rfl (by kernel_rfl) (fun _ => Ul rfl rfl rfl) ?_
  refine Um (i := 8) 1 rfl (by kernel_rfl) rfl rfl (fun w56 S56 => ?_)
  refine (U7 (i := 0) (us := [_, _]) (l' := [_, _]) (H' := [_, _, _]) rfl rfl S56 rfl rfl rfl rfl sz24 rfl rfl rfl rfl ?_)
  intro w57 S57; clear S56
  refine U10.turn (by kernel_rfl) S57 ?_; clear S57
  change WA _ _ _ _ _ _ _ _ _ _ _ _ [_, _, _]
  refine wap 9 0 rfl (by kernel_rfl) (fun _ => run_assign rfl rfl) ?_
  refine Uu (by kernel_rfl) (fun w59 S59 => ?_)
  refine nmk [2, 3, 5, 6] rfl (U4 (U2 Z1k5 Z1k6 rfl rfl rfl (U1 rfl (wlr 0 rfl (U8 (us := [_, _]) rfl rfl uT24 rfl sz24 (S59.boxcs (i := 2) rfl ⟨rfl, rfl, trivial⟩)) (wlr 1 rfl (U8 (us := [_, _, _, _, _, _, _, _]) rfl rfl uT28 rfl sz28 (S59.boxcs (i := 1) rfl ⟨rfl, rfl, rfl, rfl, rfl, rfl, rfl, rfl, trivial⟩)) (wlo 2 3 rfl rfl rfl (U2w rfl rfl rfl rfl rfl rfl rfl cf10 S59 (DoMove_t d m (hdcrs.mono (Hp.U1p _ _)) S59.lend) ?_)))))))
  intro vw60 w60 M34 hle34 S60 hRw60; clear S59
  replace hdcrs := hdcrs.mono hle34
  replace hr6 := hr6.mono hle34
  replace hr7 := hr7.mono hle34
  obtain ⟨A8, c8, rfl, hr8⟩ := hRw60
  refine mvs 3 1 rfl rfl (wlr 4 rfl (Ul rfl rfl rfl) (wlr 5 rfl (Ul rfl rfl rfl) (wlo 6 7 rfl rfl rfl (Uh (l := [_, _]) rfl rfl rfl zr24 rfl S60 ?_))))
  intro gb8 w61 S61; clear S60
  refine wlo 7 8 rfl rfl rfl (U7 (i := 0) (us := [_, _]) (l' := [_, _]) (H' := [_, _, _, _]) rfl rfl S61 rfl rfl rfl rfl sz24 rfl rfl rfl rfl ?_)
  intro w62 S62; clear S61
  refine mvs 8 1 rfl rfl (U5 rfl (nmk [5, 6, 7, 8] rfl (U4 (U2 Z1k7 Z1k8 rfl rfl rfl (U1 rfl (mvs 0 2 rfl rfl (wlr 2 rfl (Uz rfl rfl rfl) (mvs 3 1 rfl rfl ?_))))))))
  refine Ut (t := 25) rfl (fun hg25 => ?_) (fun hg25 => ?_)
  ·refine wlg 4 5 rfl rfl rfl rfl rfl rfl rfl rfl (Ub rfl rfl (U8 (us := [_, _]) rfl rfl uT24 rfl sz24 (S62.boxcs (i := 1) rfl ⟨rfl, rfl, trivial⟩)) (wlg 5 6 rfl rfl rfl rfl rfl rfl rfl rfl (Ub rfl rfl (U8 (us := [_, _]) rfl rfl uT24 rfl sz24 (S62.boxcs (i := 0) rfl ⟨rfl, rfl, trivial⟩)) (wlg 6 7 rfl rfl rfl rfl rfl rfl rfl rfl (U20 rfl rfl rfl rfl rfl rfl rfl cf11 S62 (SameDiagram_q ((doP d m).1) (hr7.mono (Hp.U1p _ _)) (hr8.mono (Hp.U1p _ _)) S62.lend) ?_)))))
   rintro _ w63 S63 rfl; clear S62
   refine mvs 7 2 rfl rfl (U5 rfl (nmk [4] rfl (U4 (Uk hC [_] rfl rfl ⟨rfl, trivial⟩ ?_))))
   refine ⟨_, rfl, _, (hle26.trans hle28).trans hle34, (S63.pick [] [] (by decide) trivial), ?_⟩
   show Value.bool _ = _
   simp
  ·exfalso; exact hg25 rfl
end Go.Proofs.YthppkofceancjaaGreat
namespace Go.Proofs.YthppkofceancjaaGreat
open Go.ChangeShapes Go.WideShapes Go.ChangeAt Go.RowKit Go.Joins Go.Deep
theorem sized_in {H : Type} {P : Program} {ts : List TypeId} {ds : List (DataW H)} (h : (DataW.weightsEach P ts ds).all (· ≤ reachBytes) = true) {j i : Nat} {t e : TypeId} {f : Field} {fs : Array Field} {parts : List (DataW H)} {elems spare : List (DataW H)}
    (ht : ts[j]? = some t) (hd : ds[j]? = some (.agg parts)) (hu : P.underlying t = some (.struct fs)) (hf : fs.toList[i]? = some f) (hp : parts[i]? = some (.slice elems spare)) (he : P.underlying f.type = some (.slice e)) :
    (elems.length + spare.length) * P.bytesOf e ≤ reachBytes := by
  have m1 := DataW.weights_mem_each (P := P) (ts := fs.toList.map (·.type)) (j := i) (t := f.type) (by rw [List.getElem?_map, hf]; rfl) hp ((elems.length + spare.length) * P.bytesOf e) (by simp [DataW.weights, he])
  have m2 := DataW.weights_mem_each (P := P) ht hd ((elems.length + spare.length) * P.bytesOf e) (by simp only [DataW.weights, hu]; exact m1)
  simpa using List.all_eq_true.1 h _ m2
theorem len5 (l : List Cr) : (l.flatMap codCr.f).length = l.length * 5 := by
  induction l with
  | nil => rfl
  | cons x l ih => rw [List.flatMap_cons, List.length_append, ih, codCr.hf, List.length_cons]; show 5 + _ = _; omega
theorem take1 {l : List Value} {j : Nat} {u : Value} (h : (l.drop j).take 1 = [u]) : l[j]? = some u := by
  have := congrArg (fun z => z[0]?) h
  simpa [List.getElem?_take, List.getElem?_drop] using this
theorem pick {α : Type} [Inhabited α] {m : Nat} {Q : Nat → α → Prop} (h : ∀ i, i < m → ∃ x, Q i x) : ∃ F : Nat → α, ∀ i, i < m → Q i (F i) :=
  ⟨fun i => if hi : i < m then (h i hi).choose else default, fun i hi => by
    show Q i (if hi : i < m then (h i hi).choose else default)
    rw [dif_pos hi]; exact (h i hi).choose_spec⟩
section
variable {H : Type} {enc : TypeId × Value → H} {w : World}
theorem f_int {n j : Nat} {cs : List Value} {y : DataW H × List MemPlace} (h : DataW.trod enc Tryz.prog w 0 (fun _ => true) true n 3 ((cs.drop j).take (Tryz.prog.cellsOf 3)) = some y) : ∃ a, cs[j]? = some (.int .i64 a) := by
  obtain ⟨a, e, _⟩ := DataW.trod_int uT3 h
  rw [show Tryz.prog.cellsOf 3 = 1 by kernel_rfl] at e
  exact ⟨a, take1 e⟩
theorem f_bool {n j : Nat} {cs : List Value} {y : DataW H × List MemPlace} (h : DataW.trod enc Tryz.prog w 0 (fun _ => true) true n 4 ((cs.drop j).take (Tryz.prog.cellsOf 4)) = some y) : ∃ a, cs[j]? = some (.bool a) := by
  obtain ⟨a, e, _⟩ := DataW.trod_bool uT4 h
  rw [show Tryz.prog.cellsOf 4 = 1 by kernel_rfl] at e
  exact ⟨a, take1 e⟩
set_option maxRecDepth 100000 in
theorem open_cr {n : Nat} {cs : List Value} {x : DataW H × List MemPlace} (h : DataW.trod enc Tryz.prog w 0 (fun _ => true) true n 77 cs = some x) : ∃ c : Cr, ∀ j u, j < 5 → (crF c)[j]? = some u → cs[j]? = some u := by
  obtain ⟨xs, k, _, _, _, hl, hf⟩ := DataW.trod_struct uT77 h
  match xs, hl with
  | [y0, y1, y2, y3, y4], _ =>
    have g0 := hf 0 _ rfl
    have g1 := hf 1 _ rfl
    have g2 := hf 2 _ rfl
    have g3 := hf 3 _ rfl
    have g4 := hf 4 _ rfl
    obtain ⟨n0, e0⟩ := f_int (j := 0) (y := y0) g0
    obtain ⟨n1, e1⟩ := f_int (j := 1) (y := y1) g1
    obtain ⟨n2, e2⟩ := f_int (j := 2) (y := y2) g2
    obtain ⟨n3, e3⟩ := f_int (j := 3) (y := y3) g3
    obtain ⟨n4, e4⟩ := f_bool (j := 4) (y := y4) g4
    refine ⟨⟨n0, n1, n2, n3, n4⟩, fun j u hj hu => ?_⟩
    match j, hj with
    | 0, _ => simp [crF] at hu; subst hu; exact e0
    | 1, _ => simp [crF] at hu; subst hu; exact e1
    | 2, _ => simp [crF] at hu; subst hu; exact e2
    | 3, _ => simp [crF] at hu; subst hu; exact e3
    | 4, _ => simp [crF] at hu; subst hu; exact e4
set_option maxRecDepth 100000 in
theorem open_Dg {v : Value} {d : DataW H} {p : List MemPlace} {b0 : Nat} (hv : Value.okWide Tryz.prog w .any b0 24 v) (h : DataW.Trod enc Tryz.prog w 0 (fun _ => true) true 24 v d p) (hlt : ∀ x ∈ p, x.block < w.heap.size)
    {ts : List TypeId} {ds : List (DataW H)} (hsz : (DataW.weightsEach Tryz.prog ts ds).all (· ≤ reachBytes) = true) {j : Nat} (hj : ts[j]? = some 24) (hd : ds[j]? = some d) :
    ∃ g : Dg, IsDg w w.heap.size v g := by
  obtain ⟨v0, v1, y0, y1, n, rfl, rfl, rfl, t0, t1⟩ := open_agg2 uT24 (by kernel_rfl) (by kernel_rfl) hv h
  obtain ⟨l, e1, _, _⟩ := DataW.trod_int uT3 t1
  injection e1 with e1
  subst e1
  have hs := fun es sp (hp : y0.1 = .slice es sp) => sized_in hsz hj hd uT24 (i := 0) rfl (by rw [List.getElem?_cons_zero, hp]) uT22
  rcases open_slice uT22 t0 with ⟨hcs, hx⟩ | ⟨a, len, cap, m, k, D, Pl, hcs, hb, hl, hm, hmm, hx, hi⟩
  · injection hcs with hcs
    subst hcs
    exact ⟨⟨[], l⟩, none, 0, rfl, Nat.le_refl _, Rd.nil_⟩
  · injection hcs with hcs
    subst hcs
    have hk : Tryz.prog.cellsOf 77 = 5 := by kernel_rfl
    have hby : Tryz.prog.bytesOf 77 = 40 := by kernel_rfl
    have hs := hs _ _ (by rw [hx])
    rw [hby] at hs
    simp only [if_true] at hmm
    subst hmm
    simp only [List.length_map, List.length_range, reachBytes] at hs
    obtain ⟨F, hF⟩ := pick (m := m) (Q := fun i (c : Cr) => ∀ j u, j < 5 → (crF c)[j]? = some u → w.cell? (a.add (i * 5 + j)) = some u) (fun i him => by
      obtain ⟨cs', hc, ht'⟩ := hi i him
      rw [hk] at hc
      obtain ⟨c, hc'⟩ := open_cr ht'
      obtain ⟨_, hcl, hat⟩ := World.cells?_some hc
      refine ⟨c, fun j u hj hu => ?_⟩
      rw [← Go.Deep.add_add, hat j hj]
      exact hc' j u hj hu)
    have hlen : ((List.range len).map F).length = len := by simp
    refine ⟨⟨(List.range len).map F, l⟩, some a, m, by rw [hlen], by rw [hlen]; exact hl, ?_⟩
    refine ⟨len5 _, by show _ * 40 ≤ _; rw [hlen]; omega, fun h0 => ?_⟩
    rw [hlen] at h0
    obtain ⟨b, off, spot⟩ := a
    have hspot : spot = none := by simpa [Addr.add] using World.cell?_spot (hF 0 (by omega) 0 _ (by omega) rfl)
    subst hspot
    refine ⟨b, off, rfl, hlt (.cell b off) (List.mem_append_left _ (by rw [hx]; exact List.mem_append_left _ (MemPlace.mem_row.2 ⟨0, by rw [hk]; omega, by simp⟩))), fun i u hu => ?_⟩
    have hil : i < len * 5 := by
      have := (List.getElem?_eq_some_iff.1 hu).1
      rw [len5, hlen] at this
      exact this
    have hu' := hu
    rw [show i = (i / 5) * 5 + i % 5 by omega] at hu'
    rw [show (5 : Nat) = codCr.k from rfl, U2p codCr.hf (by rw [hlen]; show i / 5 < len; omega) (by show i % 5 < 5; omega)] at hu'
    have := hF (i / 5) (by omega) (i % 5) u (by omega) (by simpa [codCr] using hu')
    rw [show (i / 5) * 5 + i % 5 = i by omega] at this
    rcases Nat.eq_zero_or_pos i with h1 | h1
    · subst h1; simpa [Addr.add] using this
    · simpa [Addr.add, show ¬ i = 0 by omega] using this
end
end Go.Proofs.YthppkofceancjaaGreat
namespace Go.Proofs.YthppkofceancjaaGreat
open Go.ChangeShapes Go.WideShapes Go.ChangeAt Go.RowKit
theorem RdA.of_sl {α : Type} {C : Cd α} {w : World} {B c : Nat} {A : Option Addr} {xs : List α} (hc : xs.length ≤ c) (hk : 0 < C.k) (h : Sl w B C.k C.u8 A xs.length (xs.flatMap C.f)) : RdA C (hp w) A c xs := by
  refine ⟨hc, h.2.1, fun h0 => ?_⟩
  obtain ⟨b, off, rfl, _, hat⟩ := h.2.2 h0
  refine ⟨rfl, ?_⟩
  have hlen : 0 < (xs.flatMap C.f).length := by rw [U2a C.hf]; exact Nat.mul_pos h0 hk
  have h1 := hat 0 _ (List.getElem?_eq_getElem hlen)
  show ∃ cs T fz, w.heap[b]? = some (.cells cs T fz) ∧ ∀ j u, (xs.flatMap C.f)[j]? = some u → cs[off + j]? = some u
  unfold World.cell? at h1
  split at h1
  · rename_i cs T fz hb
    refine ⟨cs, T, fz, hb, fun j u hu => ?_⟩
    have := hat j u hu
    rw [cell_of_row w b _ cs T fz hb] at this
    exact this
  · cases h1
theorem IsDg.rd {w : World} {B : Nat} {v : Value} {d : Dg} (h : IsDg w B v d) : ∃ A c, v = .agg [.slice A d.crs.length c, .int .i64 d.loops].toArray ∧ RdA cdCr (hp w) A c d.crs := by
  obtain ⟨A, c, rfl, hc, h⟩ := h
  exact ⟨A, c, rfl, RdA.of_sl (C := cdCr) hc (by decide) h⟩
end Go.Proofs.YthppkofceancjaaGreat
namespace Go.Proofs.YthppkofceancjaaGreat
open Go.ChangeShapes Go.WideShapes Go.ChangeAt Go.RowKit Go.Joins Go.Deep
def wfI (x : Int) : Prop := -9223372036854775808 ≤ x ∧ x ≤ 9223372036854775807
theorem wfI_of {x : Int} (h : (Lit.int .i64 x).wf = true) : wfI x := by
  simpa [Lit.wf, IntKind.min, IntKind.max, IntKind.signed, IntKind.bits, wfI] using h
theorem drop_take1 {l : List Value} {j : Nat} {u : Value} (h : (l.drop j).take 1 = [u]) : l[j]? = some u := by
  have := congrArg (fun z => z[0]?) h
  simpa [List.getElem?_take, List.getElem?_drop] using this
section
variable {H : Type} {enc : TypeId × Value → H} {P : Program} {w : World} {T : TypeId}
theorem fld_int {n j : Nat} {cs : List Value} {y : DataW H × List MemPlace} (hu : P.underlying T = some (.int .i64)) (hc : P.cellsOf T = 1) (h : DataW.trod enc P w 0 (fun _ => true) true n T ((cs.drop j).take (P.cellsOf T)) = some y) : ∃ a, cs[j]? = some (.int .i64 a) ∧ wfI a := by
  obtain ⟨a, e, _, hw⟩ := DataW.trod_int hu h
  rw [hc] at e
  exact ⟨a, drop_take1 e, wfI_of hw⟩
theorem fld_bool {n j : Nat} {cs : List Value} {y : DataW H × List MemPlace} (hu : P.underlying T = some .bool) (hc : P.cellsOf T = 1) (h : DataW.trod enc P w 0 (fun _ => true) true n T ((cs.drop j).take (P.cellsOf T)) = some y) : ∃ a, cs[j]? = some (.bool a) := by
  obtain ⟨a, e, _⟩ := DataW.trod_bool hu h
  rw [hc] at e
  exact ⟨a, drop_take1 e⟩
end
end Go.Proofs.YthppkofceancjaaGreat
namespace Go.Proofs.YthppkofceancjaaGreat
open Go.ChangeShapes Go.WideShapes Go.ChangeAt Go.RowKit
section
variable {H : Type} {enc : TypeId × Value → H} {w : World}
set_option maxRecDepth 100000 in
theorem mv_cells {n : Nat} {cs : List Value} {d : DataW H × List MemPlace} (h : DataW.trod enc Tryz.prog w 0 (fun _ => true) true n 28 cs = some d) : ∃ m : Mv, ∀ j u, j < 8 → ([.int .i64 m.kd, .int .i64 m.at_, .int .i64 m.by_, .int .i64 m.ua, .bool m.ub, .int .i64 m.va, .bool m.vb, .bool m.ov] : List Value)[j]? = some u → cs[j]? = some u := by
  obtain ⟨xs, k, _, _, _, hl, hf⟩ := DataW.trod_struct uT28 h
  have hc2 : Tryz.prog.cellsOf 26 = 2 := by kernel_rfl
  have c1 : Tryz.prog.cellsOf 3 = 1 := by kernel_rfl
  have b1 : Tryz.prog.cellsOf 4 = 1 := by kernel_rfl
  match xs, hl with
  | [y0, y1, y2, y3, y4, y5], _ =>
    obtain ⟨n0, e0, _⟩ := fld_int (j := 0) (y := y0) uT3 c1 (hf 0 _ rfl)
    obtain ⟨n1, e1, _⟩ := fld_int (j := 1) (y := y1) uT3 c1 (hf 1 _ rfl)
    obtain ⟨n2, e2, _⟩ := fld_int (j := 2) (y := y2) uT3 c1 (hf 2 _ rfl)
    have g3 : DataW.trod enc Tryz.prog w 0 (fun _ => true) true k 26 ((cs.drop 3).take (Tryz.prog.cellsOf 26)) = some y3 := hf 3 _ rfl
    have g4 : DataW.trod enc Tryz.prog w 0 (fun _ => true) true k 26 ((cs.drop 5).take (Tryz.prog.cellsOf 26)) = some y4 := hf 4 _ rfl
    obtain ⟨n7, e7⟩ := fld_bool (j := 7) (y := y5) uT4 b1 (hf 5 _ rfl)
    obtain ⟨zs3, k3, _, _, _, hl3, hf3⟩ := DataW.trod_struct uT26 g3
    obtain ⟨zs4, k4, _, _, _, hl4, hf4⟩ := DataW.trod_struct uT26 g4
    match zs3, hl3, zs4, hl4 with
    | [p0, p1], _, [q0, q1], _ =>
      obtain ⟨n3, e3, _⟩ := fld_int (j := 0) (y := p0) uT3 c1 (hf3 0 _ rfl)
      obtain ⟨n4, e4⟩ := fld_bool (j := 1) (y := p1) uT4 b1 (hf3 1 _ rfl)
      obtain ⟨n5, e5, _⟩ := fld_int (j := 0) (y := q0) uT3 c1 (hf4 0 _ rfl)
      obtain ⟨n6, e6⟩ := fld_bool (j := 1) (y := q1) uT4 b1 (hf4 1 _ rfl)
      rw [hc2] at e3 e4 e5 e6
      rw [List.getElem?_take, List.getElem?_drop] at e3 e4 e5 e6
      simp only [show (0 : Nat) < 2 from by decide, show (1 : Nat) < 2 from by decide, if_true, Nat.add_zero] at e3 e4 e5 e6
      refine ⟨⟨n0, n1, n2, n3, n4, n5, n6, n7⟩, fun j u hj hu => ?_⟩
      match j, hj with
      | 0, _ => injection hu with hu; subst hu; exact e0
      | 1, _ => injection hu with hu; subst hu; exact e1
      | 2, _ => injection hu with hu; subst hu; exact e2
      | 3, _ => injection hu with hu; subst hu; exact e3
      | 4, _ => injection hu with hu; subst hu; exact e4
      | 5, _ => injection hu with hu; subst hu; exact e5
      | 6, _ => injection hu with hu; subst hu; exact e6
      | 7, _ => injection hu with hu; subst hu; exact e7
set_option maxRecDepth 100000 in
theorem open_Mv {v : Value} {d : DataW H} {p : List MemPlace} {b0 : Nat} (hv : Value.okWide Tryz.prog w .any b0 28 v) (h : DataW.Trod enc Tryz.prog w 0 (fun _ => true) true 28 v d p) : ∃ m : Mv, v = .agg #[.int .i64 m.kd, .int .i64 m.at_, .int .i64 m.by_, .int .i64 m.ua, .bool m.ub, .int .i64 m.va, .bool m.vb, .bool m.ov] := by
  obtain ⟨cs, rfl, hs⟩ := okWide_struct uT28 hv
  rw [show Tryz.prog.cellsOf 28 = 8 from by kernel_rfl] at hs
  obtain ⟨fuel, hf⟩ := h
  obtain ⟨m, hm⟩ := mv_cells hf
  refine ⟨m, congrArg Value.agg ?_⟩
  have hc : ∀ j u, j < 8 → ([.int .i64 m.kd, .int .i64 m.at_, .int .i64 m.by_, .int .i64 m.ua, .bool m.ub, .int .i64 m.va, .bool m.vb, .bool m.ov] : List Value)[j]? = some u → cs[j]? = some u := fun j u hj hu => by
    have := hm j u hj hu
    simpa [Value.cells] using this
  refine Array.ext (by rw [hs]; rfl) fun j h1 h2 => ?_
  have hj : j < 8 := by rw [hs] at h1; exact h1
  have h3 := hc j _ hj (List.getElem?_eq_getElem (by exact h2))
  rw [Array.getElem?_eq_getElem h1] at h3
  injection h3
end
theorem lawMovesDo (v0 : Value) (x0 : Dg) (x1 : Mv) (W : World) (h0 : IsDg W W.heap.size v0 x0) :
    Calls Tryz.prog 3 #[v0, .agg #[.int .i64 x1.kd, .int .i64 x1.at_, .int .i64 x1.by_, .int .i64 x1.ua, .bool x1.ub, .int .i64 x1.va, .bool x1.vb, .bool x1.ov]] W fun e W' => e = .returned (.bool true) ∧ Below W.heap.size W W' := by
  obtain ⟨A0, c0, rfl, r0⟩ := h0.rd
  exact law_of_ct (MovesDo_t x0 x1 r0 (SH.start W))
set_option maxRecDepth 100000 in
theorem movesDo_lifted (os : Os) (started : os.Started) (H : Type) (enc : TypeId × Value → H) :
    ReturnsInHanded {} Tryz.checked os 3 .any (Rows.movesDoSpec.pre6 enc Tryz.prog Tryz.f3 Rows.movesDoRow.domain false) (Rows.movesDoSpec.post enc Tryz.prog Tryz.f3 false true false false) := by
  refine law_lift (C := Tryz.checked) (tb := 4) (by kernel_rfl) started (by kernel_rfl) Tryz.func3
    (ChangeSpec.witness6 (enc := enc) (C := Tryz.checked) false ⟨#[], #[.agg #[.slice none 0 0, .int .i64 0], .agg #[.int .i64 0, .int .i64 0, .int .i64 0, .int .i64 0, .bool false, .int .i64 0, .bool false, .bool false]], []⟩ 8 (by kernel_rfl) (by kernel_rfl) (by kernel_rfl) (by kernel_rfl))
    rfl (by kernel_rfl) (by kernel_rfl) rfl uT4 ?_ ?_
  · intro ds hds
    match ds, hds with
    | [d0, d1], _ => rfl
  · intro W base args ds p hval hA _ hlt hsz
    rw [Tryz.params3] at hA hval hsz
    obtain ⟨v0, vs0, d0, ds0, p0, q0, hargs, rfl, rfl, h0, r0⟩ := trodAll_cons hA
    obtain ⟨v1, vs1, d1, ds1, p1, q1, rfl, rfl, rfl, h1, r1⟩ := trodAll_cons r0
    obtain ⟨rfl, rfl, rfl⟩ := trodAll_nil r1
    obtain rfl : args = #[v0, v1] := by cases args; simp_all
    obtain ⟨a0, i0⟩ := open_Dg (hval 0 24 v0 rfl rfl) h0 (fun x hx => hlt x (by simp [hx])) hsz (j := 0) rfl rfl
    obtain ⟨a1, rfl⟩ := open_Mv (hval 1 28 v1 rfl rfl) h1
    exact lawMovesDo v0 a0 a1 W i0
theorem movesDo_holds : Rows.MovesDoSaid :=
  OpenClaim.holds_of_wide 3 Tryz.f3 rfl rfl rfl rfl rfl rfl rfl ⟨rfl, rfl, rfl, rfl, rfl⟩ rfl rfl rfl rfl rfl (by kernel_rfl) Tryz.func3 (by kernel_rfl)
    (of_decide_eq_true (by kernel_rfl)) (by unfold Func.isWrapper; first | (rw [if_pos (by decide +kernel)]; kernel_rfl) | (rw [if_neg (by decide +kernel)]; exact ⟨rfl, rfl⟩))
    (fun os started H enc _ => movesDo_lifted os started H enc)
#print axioms movesDo_holds
end Go.Proofs.YthppkofceancjaaGreat
