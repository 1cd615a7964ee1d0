/- Part 10 of the proof of the law MovesDo: the walks through its functions and the plain laws that they need. -/
import Derived.Test.YthppkofceancjaaGreatMvZ9
import Derived.RecoverIn
set_option linter.unusedSimpArgs false
set_option linter.unusedVariables false
noncomputable section
namespace Go.Proofs.YthppkofceancjaaGreat
open Go.ChangeShapes Go.WideShapes Go.ChangeAt Go.RowKit
noncomputable def Z12s:=Tryz.f71.body.getD .skip
def Z12t := cL Z12s
def Z12u := cR Z12s
def Z12v := cL Z12u
def Z12w := cR Z12u
def Z12x := cL Z12w
def Z12y := cR Z12w
def Z12z := cL Z12y
def Z130 := cR Z12y
def Z131 := cL Z130
def Z132 := cR Z130
def Z133 := cL Z132
def Z134 := cR Z132
def Z135 := cL Z134
def Z136 := cR Z134
def Z137 := cL Z135
def Z138 := cR Z135
def Z139 := cL Z138
def Z13a := cL Z139
def Z13b := cL Z13a
def Z13c := cR Z13a
def Z13d := cL Z13c
def Z13e := cR Z13c
def Z13f := cL Z13d
def Z13g := cR Z13d
def Z13h := cL Z13e
def Z13i := cR Z13e
def Z13j := cL Z13h
def Z13k := cL Z13j
def Z13l := cR Z13j
def Z13m := cL Z13l
def Z13n := cR Z13l
def Z13o := cL Z13n
def Z13p := cR Z13n
def Z13q := cL Z13p
def Z13r := cR Z13p
def Z13s := cL Z13r
def Z13t := cR Z13r
def Z13u := cL Z136
def Z13v := cR Z136
def Z13w := cL Z13v
def Z13x := cL Z13w
def Z13y := cL Z13x
def Z13z := cR Z13x
def Z140 := cL Z13z
def Z141 := cR Z13z
def Z142 := cL Z140
def Z143 := cR Z140
def Z144 := cL Z141
def Z145 := cL Z144
def Z146 := cR Z144
set_option maxHeartbeats 2000000 in
set_option maxRecDepth 10000 in
theorem Slide_m {w : World} {M : Hp} {X : Fr} (d : Dg) {ggb ggs : Nat} {vcr : Value} {iA oA fA : Option Addr} {ic oc fc : Nat} {fv : List SlV} (m : Mv) (hsi : RdA cdPl M iA ic (tabL d false (4 * d.crs.length))) (hso : RdA cdPl M oA oc (tabL d true (4 * d.crs.length))) (hfa : RdA (cdV 141) M fA fc fv) (hfd : Rd2 cdDa M fv (U6 d)) (hn : d.crs.length ≤ 16) (hab : U1b d = true) (hlo : 0 ≤ d.loops ∧ d.loops ≤ 16) (S : SH w M X [Rs.bun [Rs.box ggb 67 [.pointer (some ⟨ggs, 0, none⟩), .slice fA fv.length fc], Rs.box ggs 70 [vcr, .int .i64 d.loops, .slice iA (tabL d false (4 * d.crs.length)).length ic, .slice oA (tabL d true (4 * d.crs.length)).length oc], Rs.row cdCr vcr d.crs]]) : Cm 71 [.pointer (some ⟨ggb, 0, none⟩), .agg [.int .i64 m.kd, .int .i64 m.at_, .int .i64 m.by_, .int .i64 m.ua, .bool m.ub, .int .i64 m.va, .bool m.vb, .bool m.ov].toArray] w M X (slE d m) (BnR ggb ggs (.slice fA fv.length fc) (.slice iA (tabL d false (4 * d.crs.length)).length ic) (.slice oA (tabL d true (4 * d.crs.length)).length oc) (slD d m)) := by
 unfold Cm
 replace S := S.unbun
 obtain ⟨cA, cc, ecr, _⟩ := S.sl (i := 2) rfl
 have hfl := hfd.1
 refine Uo (b := Z12s) Tryz.func71 rfl Tryz.ntmps71 rfl (fun C hC => (U14 [(0, _), (1, _)] ⟨rfl, rfl, trivial⟩ (U2 Z12t Z12u rfl rfl rfl (U1 rfl (wlo 0 1 rfl rfl rfl (U18 (l := [_, _, _, _, _, _, _, _]) rfl rfl rfl rfl rfl S ?_))))))
 intro gb1 w1 S1; clear S
 refine U5 rfl (nmk [0, 3] rfl (U4 (U2 Z12v Z12w rfl rfl rfl (Ux rfl (by kernel_rfl) S1 14 rfl ?_))))
 clear S1
 refine wap 0 13 rfl (by kernel_rfl) (fun _ => U0 rfl rfl uT28 rfl (ce3) (nf3)) ?_
 refine wat 1 12 rfl (by kernel_rfl) (fun _ _ _ hz Sz => .inl (U3 rfl rfl uT3 rfl (Sz.suf.boxc (i := 0) rfl rfl))) ?_
 refine wap 2 11 rfl (by kernel_rfl) (fun _ => U2q rfl rfl rfl) ?_
 refine wap 3 10 rfl (by kernel_rfl) (fun _ => run_move rfl rfl) ?_
 refine U21 (t := 19) rfl (fun hg19 => ?_) (fun hg19 => ?_)
 ·refine wap 4 9 rfl (by kernel_rfl) (fun _ => U0 rfl rfl uT28 rfl (ce3) (nf3)) ?_
  refine wat 5 8 rfl (by kernel_rfl) (fun _ _ _ hz Sz => .inl (U3 rfl rfl uT3 rfl (Sz.suf.boxc (i := 0) rfl rfl))) ?_
  refine wap 6 7 rfl (by kernel_rfl) (fun _ => run_move rfl rfl) ?_
  refine wap 7 6 rfl (by kernel_rfl) (fun _ => U9 rfl rfl) ?_
  refine wap 8 5 rfl (by kernel_rfl) (fun _ => U0 rfl rfl uT67 rfl (ce65) (nf65)) ?_
  refine wat 9 4 rfl (by kernel_rfl) (fun _ _ _ hz Sz => .inl (U3 rfl rfl uT65 rfl (Sz.suf.boxc (i := 1) rfl rfl))) ?_
  refine wat 10 3 rfl (by kernel_rfl) (fun _ _ _ hz Sz => .inl (U1f rfl rfl rfl rfl rfl rfl uT65)) ?_
  refine wap 11 2 rfl (by kernel_rfl) (fun _ => U17 rfl rfl rfl) ?_
  refine wap 12 1 rfl (by kernel_rfl) (fun _ => U1e rfl rfl rfl) ?_
  refine U21 (t := 28) rfl (fun hn28 => ?_) (fun hn28 => ?_)
  ·refine wat 13 0 rfl (by kernel_rfl) (fun _ _ _ hz Sz => Uq rfl rfl rfl rfl rfl cf109 Sz (U31 3 Sz.lend)) ?_
   refine Uu (by kernel_rfl) (fun w17 S17 => ?_)
   refine nmk [0, 3] rfl (U4 (U2 Z12x Z12y rfl rfl rfl ?_))
   have hok3 : 0 ≤ m.at_ ∧ m.at_ < ((U6 d).length : Int) := by omega
   have hok : ∀ x ∈ (ga (U6 d) m.at_.toNat), okD d x := faces_ok hab (U2m (by omega))
   refine Ux rfl (by kernel_rfl) S17 9 rfl ?_
   clear S17
   refine wap 0 8 rfl (by kernel_rfl) (fun _ => run_move rfl rfl) ?_
   refine wap 1 7 rfl (by kernel_rfl) (fun _ => U9 rfl rfl) ?_
   refine wap 2 6 rfl (by kernel_rfl) (fun _ => U0 rfl rfl uT67 rfl (ce65) (nf65)) ?_
   refine wat 3 5 rfl (by kernel_rfl) (fun _ _ _ hz Sz => .inl (U3 rfl rfl uT65 rfl (Sz.suf.boxc (i := 1) rfl rfl))) ?_
   refine wap 4 4 rfl (by kernel_rfl) (fun _ => U0 rfl rfl uT28 rfl (ce3) (nf3)) ?_
   refine wat 5 3 rfl (by kernel_rfl) (fun _ _ _ hz Sz => .inl (U3 rfl rfl uT3 rfl (Sz.suf.boxc (i := 0) rfl rfl))) ?_
   refine wa_eq 35 (.int .i64 ((m.at_.toNat : Nat) : Int)) rfl (int_eq (by omega)) ?_
   refine wat 6 2 rfl (by kernel_rfl) (fun _ _ _ hz Sz => .inl (Uj (C := (cdV 141)) m.at_.toNat rfl rfl rfl sl65 (by first | rfl | omega) (hfa.mono hz) (by first | omega | (simp only [ls]; omega)))) ?_
   obtain ⟨hn1, hr1⟩ := hfd.2 m.at_.toNat (by first | omega | (simp only [ls]; omega))
   have rmhr1 : (ga (U6 d) m.at_.toNat).length * 16 ≤ 140737488355328 := hr1.room
   refine wat 7 1 rfl (by kernel_rfl) (fun _ _ _ hz Sz => .inl (U3 rfl rfl uT141 rfl ((hfa.mono hz).cell Sz.m (i := m.at_.toNat) (by first | omega | (simp only [ls]; omega)) 0 rfl (congrArg (fun n => some (Value.slice _ n _)) hn1)))) ?_
   refine wap 8 0 rfl (by kernel_rfl) (fun _ => run_assign rfl rfl) ?_
   refine Uu (by kernel_rfl) (fun w27 S27 => ?_)
   refine nmk [0, 4] rfl (U4 (U2 Z12z Z130 rfl rfl rfl (U1 rfl (mvs 0 2 rfl rfl (wlo 2 3 rfl rfl rfl (U20 rfl rfl rfl rfl rfl rfl rfl cf127 S27 (slides_q d (ga (U6 d) m.at_.toNat) (SH.bxOf (N := []) (i := 1) S27 rfl rfl) (SH.bxOf (N := []) (i := 2) S27 rfl (by rw [ecr])) (SH.rdOf (N := []) (i := 3) S27 rfl ecr (by show _ * 40 ≤ _; omega)) (hsi.mono (Hp.U1p _ _)) (hso.mono (Hp.U1p _ _)) (hr1.mono (Hp.U1p _ _)) hn hab hok S27.lend) ?_))))))
   rintro _ w28 S28 rfl; clear S27
   refine U2x (t := 40) rfl (fun hn40 => ?_) (fun hn40 => ?_)
   ·refine wlo 3 4 rfl rfl rfl (U20 rfl rfl rfl rfl rfl rfl rfl cf109 S28 (U31 8 S28.lend) ?_)
    rintro _ w29 S29 rfl; clear S28
    refine U5 rfl (nmk [0, 4] rfl (U4 (U2 Z131 Z132 rfl rfl rfl (U1 rfl (mvs 0 1 rfl rfl (U5 rfl (U4 (U2 Z133 Z134 rfl rfl rfl ?_))))))))
    refine U1 rfl (wlo 0 1 rfl rfl rfl (U3g (Nat × Nat) Int (fun x => Value.agg (cdPl.f x).toArray) (Value.int .i64) rfl rfl rfl S29 ?_))
    intro gm1 w30 S30; clear S29
    refine mvs 1 1 rfl rfl (U5 rfl (nmk [0, 4, 5, 6] rfl (U4 (U2 Z135 Z136 rfl rfl rfl (U2 Z137 Z138 rfl rfl rfl (U1 rfl (mvs 0 1 rfl rfl (wlr 1 rfl (U1f rfl rfl rfl rfl rfl rfl uT141) ?_))))))))
    refine mvs 2 1 rfl rfl (U5 rfl (nmk [0, 5, 6, 43, 44, 45] rfl (U4 (Uc Z139 0 rfl rfl rfl ?_))))
    refine U11 (fun mx_ ax_ wx_ => ∃ (i : Nat) (es : List ((Nat × Nat) × Int)), mx_ = (ga (U6 d) m.at_.toNat).length - i ∧ Env 117 [(0, .pointer (some ⟨ggb, 0, none⟩)), (5, .func (.func 128) #[] #[]), (6, .map (some gm1)), (43, .slice ((ga fv m.at_.toNat).A) (ga (U6 d) m.at_.toNat).length ((ga fv m.at_.toNat).c)), (44, .int .i64 ((ga (U6 d) m.at_.toNat).length : Int)), (45, .int .i64 (i : Int))] ax_ ∧ SH wx_ M X [Rs.mp (fun x => Value.agg (cdPl.f x).toArray) (Value.int .i64) gm1 es, Rs.box ggb 67 [.pointer (some ⟨ggs, 0, none⟩), .slice fA fv.length fc], Rs.box ggs 70 [vcr, .int .i64 d.loops, .slice iA (tabL d false (4 * d.crs.length)).length ic, .slice oA (tabL d true (4 * d.crs.length)).length oc], Rs.row cdCr vcr d.crs] ∧ i ≤ (ga (U6 d) m.at_.toNat).length ∧ es = nowN d (ga (U6 d) m.at_.toNat) i) rfl ?_ ?_
    ·intro ax_ hax_
     refine ⟨_, ⟨0, [], rfl, hax_.sub ⟨rfl, rfl, rfl, rfl, rfl, rfl, trivial⟩, S30.pick [0, 2, 3, 4] [_, _, _, _] (by decide) ⟨rfl, rfl, rfl, rfl, trivial⟩, ?hq1f0, ?hq1f1⟩⟩
     case hq1f0 => omega
     case hq1f1 => rfl
    ·rintro m2 a1 w31 ⟨i, es, rfl, he1, S31, hi, hes⟩
     clear S30
     refine U1u he1 (c := Z13a) rfl ?_
     clear he1 a1
     refine U2 Z13b Z13c rfl rfl rfl (U1 rfl (wlr 0 rfl (U17 rfl rfl rfl) (U5 rfl (U4 (U2 Z13d Z13e rfl rfl rfl ?_)))))
     refine Ue Z13f Z13g rfl rfl rfl rfl (fun hb46 => ?_) (fun hb46 => ?_)
     ·refine Uf rfl (nmk [0, 5, 6, 43, 44, 45] rfl (U4 (U2 Z13h Z13i rfl rfl rfl (Uc Z13j 1 rfl rfl rfl (U2 Z13k Z13l rfl rfl rfl (U1 rfl (wlr 0 rfl (Uj (C := cdDa) i rfl rfl rfl sl141 (by first | rfl | omega) hr1 (by first | omega | (simp only [ls]; omega))) ?_)))))))
      refine wlr 1 rfl (U8 (us := [_, _]) rfl rfl uT26 rfl sz26 (hr1.U1x S31.m (e := i) (by first | omega | (simp only [ls]; omega)) (j := 0) ⟨rfl, rfl, trivial⟩)) ?_
      refine wlo 2 3 rfl rfl rfl (Uh (l := [_, _]) rfl rfl rfl zr26 rfl S31 ?_)
      intro gb2 w32 S32; clear S31
      refine wlo 3 4 rfl rfl rfl (U7 (i := 0) (us := [_, _]) (l' := [_, _]) (H' := [_, _, _, _, _]) rfl rfl S32 rfl rfl rfl rfl sz26 rfl rfl rfl rfl ?_)
      intro w33 S33; clear S32
      refine U5 rfl (nmk [0, 5, 6, 43, 44, 45, 8] rfl (U4 (U2 Z13m Z13n rfl rfl rfl ?_)))
      have ho : okD d (ga (ga (U6 d) m.at_.toNat) i) := hok _ (U2m (by omega))
      have hpo : 1 ≤ (ga (ga (U6 d) m.at_.toNat) i).a ∧ (ga (ga (U6 d) m.at_.toNat) i).a ≤ 2 * (d.crs.length : Int) := ho
      obtain ⟨ht1, ht2, htg, htl, _⟩ := endD hab ho true
      obtain ⟨hf1, hf2, hfg, hfl, _⟩ := endD hab ho false
      have hlt1 := U1m d true (4 * d.crs.length)
      have hlt2 := U1m d false (4 * d.crs.length)
      refine U1 rfl (wlr 0 rfl (U0 rfl rfl uT26 rfl (ce3) (nf3)) (wlr 1 rfl (U3 rfl rfl uT3 rfl (S33.boxc (i := 0) rfl rfl)) (mvs 2 1 rfl rfl (U5 rfl (nmk [0, 5, 6, 43, 44, 45, 9] rfl (U4 (U2 Z13o Z13p rfl rfl rfl ?_)))))))
      refine ws_cut (fun ax_ wx_ => ∃ (gbfr : Nat) (gbto : Nat), Env 117 [(0, .pointer (some ⟨ggb, 0, none⟩)), (5, .func (.func 128) #[] #[]), (6, .map (some gm1)), (43, .slice ((ga fv m.at_.toNat).A) (ga (U6 d) m.at_.toNat).length ((ga fv m.at_.toNat).c)), (44, .int .i64 ((ga (U6 d) m.at_.toNat).length : Int)), (45, .int .i64 (i : Int)), (9, .int .i64 ((ga (ga (U6 d) m.at_.toNat) i).a)), (10, .pointer (some ⟨gbfr, 0, none⟩)), (11, .pointer (some ⟨gbto, 0, none⟩))] ax_ ∧ SH wx_ M X [Rs.box gbfr 190 [.int .i64 ((ga (tabL d true (4 * d.crs.length)) (ga (ga (U6 d) m.at_.toNat) i).a.toNat).1 : Int), .int .i64 ((ga (tabL d true (4 * d.crs.length)) (ga (ga (U6 d) m.at_.toNat) i).a.toNat).2 : Int)], Rs.box gbto 190 [.int .i64 ((ga (tabL d false (4 * d.crs.length)) (ga (ga (U6 d) m.at_.toNat) i).a.toNat).1 : Int), .int .i64 ((ga (tabL d false (4 * d.crs.length)) (ga (ga (U6 d) m.at_.toNat) i).a.toNat).2 : Int)], Rs.box gb2 26 [.int .i64 ((ga (ga (U6 d) m.at_.toNat) i).a), .bool ((ga (ga (U6 d) m.at_.toNat) i).b)], Rs.mp (fun x => Value.agg (cdPl.f x).toArray) (Value.int .i64) gm1 es, Rs.box ggb 67 [.pointer (some ⟨ggs, 0, none⟩), .slice fA fv.length fc], Rs.box ggs 70 [vcr, .int .i64 d.loops, .slice iA (tabL d false (4 * d.crs.length)).length ic, .slice oA (tabL d true (4 * d.crs.length)).length oc], Rs.row cdCr vcr d.crs]) ?_ ?_
      ·refine Ux rfl (by kernel_rfl) S33 24 rfl ?_
       clear S33
       refine wap 0 23 rfl (by kernel_rfl) (fun _ => run_move rfl rfl) ?_
       refine wap 1 22 rfl (by kernel_rfl) (fun _ => U9 rfl rfl) ?_
       refine wap 2 21 rfl (by kernel_rfl) (fun _ => U0 rfl rfl uT67 rfl (ce64) (nf64)) ?_
       refine wat 3 20 rfl (by kernel_rfl) (fun _ _ _ hz Sz => .inl (U3 rfl rfl uT64 rfl (Sz.suf.boxc (i := 2) rfl rfl))) ?_
       refine wap 4 19 rfl (by kernel_rfl) (fun _ => U9 rfl rfl) ?_
       refine wap 5 18 rfl (by kernel_rfl) (fun _ => U0 rfl rfl uT70 rfl (ce68) (nf68)) ?_
       refine wat 6 17 rfl (by kernel_rfl) (fun _ _ _ hz Sz => .inl (U3 rfl rfl uT68 rfl (Sz.suf.boxc (i := 3) rfl rfl))) ?_
       refine wap 7 16 rfl (by kernel_rfl) (fun _ => run_move rfl rfl) ?_
       refine wa_eq 58 (.int .i64 (((ga (ga (U6 d) m.at_.toNat) i).a.toNat : Nat) : Int)) rfl (int_eq (by omega)) ?_
       refine wat 8 15 rfl (by kernel_rfl) (fun _ _ _ hz Sz => .inl (Uj (C := cdPl) ((ga (ga (U6 d) m.at_.toNat) i).a.toNat) rfl rfl rfl sl68 (by first | rfl | omega) (hso.mono hz) (by first | omega | (simp only [ls]; omega)))) ?_
       refine wat 9 14 rfl (by kernel_rfl) (fun _ _ _ hz Sz => .inl (U8 (us := [_, _]) rfl rfl uT190 rfl sz190 ((hso.mono hz).U1x Sz.m (e := (ga (ga (U6 d) m.at_.toNat) i).a.toNat) (by first | omega | (simp only [ls]; omega)) (j := 0) ⟨rfl, rfl, trivial⟩))) ?_
       refine wap 10 13 rfl (by kernel_rfl) (fun _ => run_move rfl rfl) ?_
       refine wap 11 12 rfl (by kernel_rfl) (fun _ => U9 rfl rfl) ?_
       refine wap 12 11 rfl (by kernel_rfl) (fun _ => U0 rfl rfl uT67 rfl (ce64) (nf64)) ?_
       refine wat 13 10 rfl (by kernel_rfl) (fun _ _ _ hz Sz => .inl (U3 rfl rfl uT64 rfl (Sz.suf.boxc (i := 2) rfl rfl))) ?_
       refine wap 14 9 rfl (by kernel_rfl) (fun _ => U9 rfl rfl) ?_
       refine wap 15 8 rfl (by kernel_rfl) (fun _ => U0 rfl rfl uT70 rfl (ce68) (nf68)) ?_
       refine wat 16 7 rfl (by kernel_rfl) (fun _ _ _ hz Sz => .inl (U3 rfl rfl uT68 rfl (Sz.suf.boxc (i := 3) rfl rfl))) ?_
       refine wap 17 6 rfl (by kernel_rfl) (fun _ => run_move rfl rfl) ?_
       refine wa_eq 68 (.int .i64 (((ga (ga (U6 d) m.at_.toNat) i).a.toNat : Nat) : Int)) rfl (int_eq (by omega)) ?_
       refine wat 18 5 rfl (by kernel_rfl) (fun _ _ _ hz Sz => .inl (Uj (C := cdPl) ((ga (ga (U6 d) m.at_.toNat) i).a.toNat) rfl rfl rfl sl68 (by first | rfl | omega) (hsi.mono hz) (by first | omega | (simp only [ls]; omega)))) ?_
       refine wat 19 4 rfl (by kernel_rfl) (fun _ _ _ hz Sz => .inl (U8 (us := [_, _]) rfl rfl uT190 rfl sz190 ((hsi.mono hz).U1x Sz.m (e := (ga (ga (U6 d) m.at_.toNat) i).a.toNat) (by first | omega | (simp only [ls]; omega)) (j := 0) ⟨rfl, rfl, trivial⟩))) ?_
       refine wa_two (i := 20) (j := 21) 3 rfl rfl (by kernel_rfl) rfl rfl rfl rfl (fun w57 S57 => ?_) (fun w57 S57 => ?_)
       ·refine (Uh (l := [_, _]) rfl rfl rfl zr190 rfl S57 ?_)
        intro gb3 w58 S58; clear S57
        refine U10.grow [_] (Hp.le_refl _) S58 ?_; clear S58
        change WA _ _ _ _ _ _ _ _ _ _ _ _ [_, _, _, _, _, _]
        refine Um (i := 21) 2 rfl (by kernel_rfl) rfl rfl (fun w60 S60 => ?_)
        refine (Uh (l := [_, _]) rfl rfl rfl zr190 rfl S60 ?_)
        intro gb4 w61 S61; clear S60
        refine U10.grow [_, _] (Hp.le_refl _) S61 ?_; clear S61
        change WA _ _ _ _ _ _ _ _ _ _ _ _ [_, _, _, _, _, _, _]
        refine Um (i := 22) 1 rfl (by kernel_rfl) rfl rfl (fun w63 S63 => ?_)
        refine (U7 (i := 1) (us := [_, _]) (l' := [_, _]) (H' := [_, _, _, _, _, _, _]) rfl rfl S63 rfl rfl rfl rfl sz190 rfl rfl rfl rfl ?_)
        intro w64 S64; clear S63
        refine U10.grow [_, _] (Hp.le_refl _) S64 ?_; clear S64
        change WA _ _ _ _ _ _ _ _ _ _ _ _ [_, _, _, _, _, _, _]
        refine Um (i := 23) 0 rfl (by kernel_rfl) rfl rfl (fun w66 S66 => ?_)
        refine (U7 (i := 0) (us := [_, _]) (l' := [_, _]) (H' := [_, _, _, _, _, _, _]) rfl rfl S66 rfl rfl rfl rfl sz190 rfl rfl rfl rfl ?_)
        intro w67 S67; clear S66
        refine U10.grow [_, _] (Hp.le_refl _) S67 ?_; clear S67
        change WA _ _ _ _ _ _ _ _ _ _ _ _ [_, _, _, _, _, _, _]
        refine Uu (by kernel_rfl) (fun w68 S68 => ?_)
        refine U15 ?_
        intro ax_ hax_
        refine ⟨_, _, hax_.sub ⟨rfl, rfl, rfl, rfl, rfl, rfl, rfl, rfl, rfl, trivial⟩, S68.pick [1, 0, 2, 3, 4, 5, 6] [_, _, _, _, _, _, _] (by decide) ⟨rfl, rfl, rfl, rfl, rfl, rfl, rfl, trivial⟩⟩
       ·refine (Uh (l := [_, _]) rfl rfl rfl zr190 rfl S57 ?_)
        intro gb5 w69 S69; clear S57
        refine U10.grow [_] (Hp.le_refl _) S69 ?_; clear S69
        change WA _ _ _ _ _ _ _ _ _ _ _ _ [_, _, _, _, _, _]
        refine Um (i := 20) 2 rfl (by kernel_rfl) rfl rfl (fun w71 S71 => ?_)
        refine (Uh (l := [_, _]) rfl rfl rfl zr190 rfl S71 ?_)
        intro gb6 w72 S72; clear S71
        refine U10.grow [_, _] (Hp.le_refl _) S72 ?_; clear S72
        change WA _ _ _ _ _ _ _ _ _ _ _ _ [_, _, _, _, _, _, _]
        refine Um (i := 22) 1 rfl (by kernel_rfl) rfl rfl (fun w74 S74 => ?_)
        refine (U7 (i := 0) (us := [_, _]) (l' := [_, _]) (H' := [_, _, _, _, _, _, _]) rfl rfl S74 rfl rfl rfl rfl sz190 rfl rfl rfl rfl ?_)
        intro w75 S75; clear S74
        refine U10.grow [_, _] (Hp.le_refl _) S75 ?_; clear S75
        change WA _ _ _ _ _ _ _ _ _ _ _ _ [_, _, _, _, _, _, _]
        refine Um (i := 23) 0 rfl (by kernel_rfl) rfl rfl (fun w77 S77 => ?_)
        refine (U7 (i := 1) (us := [_, _]) (l' := [_, _]) (H' := [_, _, _, _, _, _, _]) rfl rfl S77 rfl rfl rfl rfl sz190 rfl rfl rfl rfl ?_)
        intro w78 S78; clear S77
        refine U10.grow [_, _] (Hp.le_refl _) S78 ?_; clear S78
        change WA _ _ _ _ _ _ _ _ _ _ _ _ [_, _, _, _, _, _, _]
        refine Uu (by kernel_rfl) (fun w79 S79 => ?_)
        refine U15 ?_
        intro ax_ hax_
        refine ⟨_, _, hax_.sub ⟨rfl, rfl, rfl, rfl, rfl, rfl, rfl, rfl, rfl, trivial⟩, S79.pick [0, 1, 2, 3, 4, 5, 6] [_, _, _, _, _, _, _] (by decide) ⟨rfl, rfl, rfl, rfl, rfl, rfl, rfl, trivial⟩⟩
      ·rintro a2 w34 ⟨gbfr, gbto, he2, S34⟩
       clear S33
       refine nm_in he2 ?_
       clear he2 a2
       refine U4 (U2 Z13q Z13r rfl rfl rfl ?_)
       have xt : atOk d (ga (tabL d true (4 * d.crs.length)) (ga (ga (U6 d) m.at_.toNat) i).a.toNat) := by rw [htg]; exact ⟨ht1, ht2⟩
       have xt2 : (ga (tabL d true (4 * d.crs.length)) (ga (ga (U6 d) m.at_.toNat) i).a.toNat).2 < 4 := xt.2
       have xto1 : (oppP (ga (tabL d true (4 * d.crs.length)) (ga (ga (U6 d) m.at_.toNat) i).a.toNat)).1 < d.crs.length := (U3o xt).1
       have xto2 : (oppP (ga (tabL d true (4 * d.crs.length)) (ga (ga (U6 d) m.at_.toNat) i).a.toNat)).2 < 4 := (U3o xt).2
       have xf : atOk d (ga (tabL d false (4 * d.crs.length)) (ga (ga (U6 d) m.at_.toNat) i).a.toNat) := by rw [hfg]; exact ⟨hf1, hf2⟩
       have xf2 : (ga (tabL d false (4 * d.crs.length)) (ga (ga (U6 d) m.at_.toNat) i).a.toNat).2 < 4 := xf.2
       have xfo1 : (oppP (ga (tabL d false (4 * d.crs.length)) (ga (ga (U6 d) m.at_.toNat) i).a.toNat)).1 < d.crs.length := (U3o xf).1
       have xfo2 : (oppP (ga (tabL d false (4 * d.crs.length)) (ga (ga (U6 d) m.at_.toNat) i).a.toNat)).2 < 4 := (U3o xf).2
       refine Ux rfl (by kernel_rfl) S34 18 rfl ?_
       clear S34
       refine wap 0 17 rfl (by kernel_rfl) (fun _ => run_move rfl rfl) ?_
       refine wap 1 16 rfl (by kernel_rfl) (fun _ => U9 rfl rfl) ?_
       refine wap 2 15 rfl (by kernel_rfl) (fun _ => U0 rfl rfl uT67 rfl (ce64) (nf64)) ?_
       refine wat 3 14 rfl (by kernel_rfl) (fun _ _ _ hz Sz => .inl (U3 rfl rfl uT64 rfl (Sz.suf.boxc (i := 4) rfl rfl))) ?_
       refine wap 4 13 rfl (by kernel_rfl) (fun _ => run_move rfl rfl) ?_
       refine wat 5 12 rfl (by kernel_rfl) (fun _ _ _ hz Sz => .inl (U8 (us := [_, _]) rfl rfl uT190 rfl sz190 (Sz.suf.boxcs (i := 0) rfl ⟨rfl, rfl, trivial⟩))) ?_
       refine wat 6 11 rfl (by kernel_rfl) (fun _ _ _ hz Sz => Uq rfl rfl rfl rfl rfl cf128 Sz (slide1_q (ga (tabL d true (4 * d.crs.length)) (ga (ga (U6 d) m.at_.toNat) i).a.toNat) (by first | assumption | omega) Sz.lend)) ?_
       refine wat 7 10 rfl (by kernel_rfl) (fun _ _ _ hz Sz => Uq rfl rfl rfl rfl rfl cf129 Sz (At_q d ((oppP (ga (tabL d true (4 * d.crs.length)) (ga (ga (U6 d) m.at_.toNat) i).a.toNat)).1) ((oppP (ga (tabL d true (4 * d.crs.length)) (ga (ga (U6 d) m.at_.toNat) i).a.toNat)).2) (SH.bxOf (i := 5) Sz rfl (by rw [ecr])) (SH.rdOf (i := 6) Sz rfl ecr (by show _ * 40 ≤ _; omega)) ((hsi.mono hz).mono (Hp.U1p _ _)) ((hso.mono hz).mono (Hp.U1p _ _)) (by omega) (by omega) Sz.lend)) ?_
       refine wap 8 9 rfl (by kernel_rfl) (fun _ => run_move rfl rfl) ?_
       refine wap 9 8 rfl (by kernel_rfl) (fun _ => U9 rfl rfl) ?_
       refine wap 10 7 rfl (by kernel_rfl) (fun _ => U0 rfl rfl uT67 rfl (ce64) (nf64)) ?_
       refine wat 11 6 rfl (by kernel_rfl) (fun _ _ _ hz Sz => .inl (U3 rfl rfl uT64 rfl (Sz.suf.boxc (i := 4) rfl rfl))) ?_
       refine wap 12 5 rfl (by kernel_rfl) (fun _ => run_move rfl rfl) ?_
       refine wat 13 4 rfl (by kernel_rfl) (fun _ _ _ hz Sz => .inl (U8 (us := [_, _]) rfl rfl uT190 rfl sz190 (Sz.suf.boxcs (i := 1) rfl ⟨rfl, rfl, trivial⟩))) ?_
       refine wat 14 3 rfl (by kernel_rfl) (fun _ _ _ hz Sz => Uq rfl rfl rfl rfl rfl cf128 Sz (slide1_q (ga (tabL d false (4 * d.crs.length)) (ga (ga (U6 d) m.at_.toNat) i).a.toNat) (by first | assumption | omega) Sz.lend)) ?_
       refine wat 15 2 rfl (by kernel_rfl) (fun _ _ _ hz Sz => Uq rfl rfl rfl rfl rfl cf129 Sz (At_q d ((oppP (ga (tabL d false (4 * d.crs.length)) (ga (ga (U6 d) m.at_.toNat) i).a.toNat)).1) ((oppP (ga (tabL d false (4 * d.crs.length)) (ga (ga (U6 d) m.at_.toNat) i).a.toNat)).2) (SH.bxOf (i := 5) Sz rfl (by rw [ecr])) (SH.rdOf (i := 6) Sz rfl ecr (by show _ * 40 ≤ _; omega)) ((hsi.mono hz).mono (Hp.U1p _ _)) ((hso.mono hz).mono (Hp.U1p _ _)) (by omega) (by omega) Sz.lend)) ?_
       refine wap 16 1 rfl (by kernel_rfl) (fun _ => run_assign rfl rfl) ?_
       refine wap 17 0 rfl (by kernel_rfl) (fun _ => run_assign rfl rfl) ?_
       refine Uu (by kernel_rfl) (fun w98 S98 => ?_)
       refine nmk [0, 5, 6, 43, 44, 45, 9, 10, 11, 12, 13] rfl (U4 (U2 Z13s Z13t rfl rfl rfl ?_))
       have S99 := S98.pick [3, 0, 1, 2, 4, 5, 6] [_, _, _, _, _, _, _] (by decide) ⟨rfl, rfl, rfl, rfl, rfl, rfl, rfl, trivial⟩; clear S98
       refine U29 [_] [_, _, _, _, _, _] rfl (by kernel_rfl) S99 10 rfl ?_
       clear S99
       change WA _ _ _ _ _ _ _ _ _ _ _ _ [_, _, _, _, _, _, _]
       refine wap 0 9 rfl (by kernel_rfl) (fun _ => run_move rfl rfl) ?_
       refine wat 1 8 rfl (by kernel_rfl) (fun _ _ _ hz Sz => .inl (U8 (us := [_, _]) rfl rfl uT190 rfl sz190 (Sz.suf.boxcs (i := 1) rfl ⟨rfl, rfl, trivial⟩))) ?_
       refine wap 2 7 rfl (by kernel_rfl) (fun _ => run_move rfl rfl) ?_
       refine wap 3 6 rfl (by kernel_rfl) (fun _ => run_move rfl rfl) ?_
       refine wat 4 5 rfl (by kernel_rfl) (fun _ _ _ hz Sz => .inl (U8 (us := [_, _]) rfl rfl uT190 rfl sz190 (Sz.suf.boxcs (i := 1) rfl ⟨rfl, rfl, trivial⟩))) ?_
       refine wat 5 4 rfl (by kernel_rfl) (fun _ _ _ hz Sz => Uq rfl rfl rfl rfl rfl cf128 Sz (slide1_q (ga (tabL d false (4 * d.crs.length)) (ga (ga (U6 d) m.at_.toNat) i).a.toNat) (by first | assumption | omega) Sz.lend)) ?_
       refine wap 6 3 rfl (by kernel_rfl) (fun _ => run_move rfl rfl) ?_
       refine wap 7 2 rfl (by kernel_rfl) (fun _ => run_move rfl rfl) ?_
       refine Um (i := 8) 1 rfl (by kernel_rfl) rfl rfl (fun w108 S109 => ?_)
       refine (U1s (kc := (fun x => Value.agg (cdPl.f x).toArray)) (vc := Value.int .i64) (es := es) (k := (ga (tabL d false (4 * d.crs.length)) (ga (ga (U6 d) m.at_.toNat) i).a.toNat)) (e := (U1g d ((oppP (ga (tabL d true (4 * d.crs.length)) (ga (ga (U6 d) m.at_.toNat) i).a.toNat)).1) ((oppP (ga (tabL d true (4 * d.crs.length)) (ga (ga (U6 d) m.at_.toNat) i).a.toNat)).2))) (i := 0) (H' := [_, _, _, _, _, _, _]) (.inl rfl) rfl S109 rfl rfl rfl rfl uT215 mk190 rfl ?_)
       intro w109 S110; clear S109
       refine U10.grow [_] (Hp.le_refl _) S110 ?_; clear S110
       change WA _ _ _ _ _ _ _ _ _ _ _ _ [_, _, _, _, _, _, _]
       refine Um (i := 9) 0 rfl (by kernel_rfl) rfl rfl (fun w111 S112 => ?_)
       refine (U1s (kc := (fun x => Value.agg (cdPl.f x).toArray)) (vc := Value.int .i64) (es := (mp (ga (tabL d false (4 * d.crs.length)) (ga (ga (U6 d) m.at_.toNat) i).a.toNat) (U1g d ((oppP (ga (tabL d true (4 * d.crs.length)) (ga (ga (U6 d) m.at_.toNat) i).a.toNat)).1) ((oppP (ga (tabL d true (4 * d.crs.length)) (ga (ga (U6 d) m.at_.toNat) i).a.toNat)).2)) es)) (k := (oppP (ga (tabL d false (4 * d.crs.length)) (ga (ga (U6 d) m.at_.toNat) i).a.toNat))) (e := ((ga (ga (U6 d) m.at_.toNat) i).a)) (i := 0) (H' := [_, _, _, _, _, _, _]) (.inl rfl) rfl S112 rfl rfl rfl rfl uT215 mk190 rfl ?_)
       intro w112 S113; clear S112
       refine U10.grow [_] (Hp.le_refl _) S113 ?_; clear S113
       change WA _ _ _ _ _ _ _ _ _ _ _ _ [_, _, _, _, _, _, _]
       refine Uu (by kernel_rfl) (fun w113 S114 => ?_)
       refine nmk [0, 5, 6, 43, 44, 45, 9, 10, 13] rfl (U4 ?_)
       have S115 := S114.pick [0, 1, 2, 3, 4, 5, 6] [_, _, _, _, _, _, _] (by decide) ⟨rfl, rfl, rfl, rfl, rfl, rfl, rfl, trivial⟩; clear S114
       refine U29 [_] [_, _, _, _, _, _] rfl (by kernel_rfl) S115 12 rfl ?_
       clear S115
       change WA _ _ _ _ _ _ _ _ _ _ _ _ [_, _, _, _, _, _, _]
       refine wap 0 11 rfl (by kernel_rfl) (fun _ => run_move rfl rfl) ?_
       refine wap 1 10 rfl (by kernel_rfl) (fun _ => run_move rfl rfl) ?_
       refine wat 2 9 rfl (by kernel_rfl) (fun _ _ _ hz Sz => .inl (U8 (us := [_, _]) rfl rfl uT190 rfl sz190 (Sz.suf.boxcs (i := 0) rfl ⟨rfl, rfl, trivial⟩))) ?_
       refine wat 3 8 rfl (by kernel_rfl) (fun _ _ _ hz Sz => Uq rfl rfl rfl rfl rfl cf128 Sz (slide1_q (ga (tabL d true (4 * d.crs.length)) (ga (ga (U6 d) m.at_.toNat) i).a.toNat) (by first | assumption | omega) Sz.lend)) ?_
       refine wap 4 7 rfl (by kernel_rfl) (fun _ => run_move rfl rfl) ?_
       refine wat 5 6 rfl (by kernel_rfl) (fun _ _ _ hz Sz => .inl (U8 (us := [_, _]) rfl rfl uT190 rfl sz190 (Sz.suf.boxcs (i := 0) rfl ⟨rfl, rfl, trivial⟩))) ?_
       refine wap 6 5 rfl (by kernel_rfl) (fun _ => run_move rfl rfl) ?_
       refine wap 7 4 rfl (by kernel_rfl) (fun _ => run_move rfl rfl) ?_
       refine Um (i := 8) 3 rfl (by kernel_rfl) rfl rfl (fun w123 S125 => ?_)
       refine (wo_mapEntry (kc := (fun x => Value.agg (cdPl.f x).toArray)) (vc := Value.int .i64) (es := (mp (oppP (ga (tabL d false (4 * d.crs.length)) (ga (ga (U6 d) m.at_.toNat) i).a.toNat)) ((ga (ga (U6 d) m.at_.toNat) i).a) (mp (ga (tabL d false (4 * d.crs.length)) (ga (ga (U6 d) m.at_.toNat) i).a.toNat) (U1g d ((oppP (ga (tabL d true (4 * d.crs.length)) (ga (ga (U6 d) m.at_.toNat) i).a.toNat)).1) ((oppP (ga (tabL d true (4 * d.crs.length)) (ga (ga (U6 d) m.at_.toNat) i).a.toNat)).2)) es))) (k := (oppP (ga (tabL d true (4 * d.crs.length)) (ga (ga (U6 d) m.at_.toNat) i).a.toNat))) (zv := 0) (i := 0) rfl rfl rfl S125 rfl rfl rfl uT215 mk190 zr3 ?_)
       intro sx1 w124 S126; clear S125
       change SH _ _ _ [Rs.mpS (fun x => Value.agg (cdPl.f x).toArray) (Value.int .i64) gm1 (mp (oppP (ga (tabL d true (4 * d.crs.length)) (ga (ga (U6 d) m.at_.toNat) i).a.toNat)) ((mg (oppP (ga (tabL d true (4 * d.crs.length)) (ga (ga (U6 d) m.at_.toNat) i).a.toNat)) (mp (oppP (ga (tabL d false (4 * d.crs.length)) (ga (ga (U6 d) m.at_.toNat) i).a.toNat)) ((ga (ga (U6 d) m.at_.toNat) i).a) (mp (ga (tabL d false (4 * d.crs.length)) (ga (ga (U6 d) m.at_.toNat) i).a.toNat) (U1g d ((oppP (ga (tabL d true (4 * d.crs.length)) (ga (ga (U6 d) m.at_.toNat) i).a.toNat)).1) ((oppP (ga (tabL d true (4 * d.crs.length)) (ga (ga (U6 d) m.at_.toNat) i).a.toNat)).2)) es))).getD 0) (mp (oppP (ga (tabL d false (4 * d.crs.length)) (ga (ga (U6 d) m.at_.toNat) i).a.toNat)) ((ga (ga (U6 d) m.at_.toNat) i).a) (mp (ga (tabL d false (4 * d.crs.length)) (ga (ga (U6 d) m.at_.toNat) i).a.toNat) (U1g d ((oppP (ga (tabL d true (4 * d.crs.length)) (ga (ga (U6 d) m.at_.toNat) i).a.toNat)).1) ((oppP (ga (tabL d true (4 * d.crs.length)) (ga (ga (U6 d) m.at_.toNat) i).a.toNat)).2)) es))) (oppP (ga (tabL d true (4 * d.crs.length)) (ga (ga (U6 d) m.at_.toNat) i).a.toNat)) sx1, _, _, _, _, _, _] at S126
       refine U10.grow [_] (Hp.le_refl _) S126 ?_; clear S126
       change WA _ _ _ _ _ _ _ _ _ _ _ _ [_, _, _, _, _, _, _]
       refine wap 9 2 rfl (by kernel_rfl) (fun _ => Ul rfl rfl rfl) ?_
       refine Um (i := 10) 1 rfl (by kernel_rfl) rfl rfl (fun w127 S129 => ?_)
       refine (wo_entryStore (kc := (fun x => Value.agg (cdPl.f x).toArray)) (vc := Value.int .i64) (es := (mp (oppP (ga (tabL d true (4 * d.crs.length)) (ga (ga (U6 d) m.at_.toNat) i).a.toNat)) ((mg (oppP (ga (tabL d true (4 * d.crs.length)) (ga (ga (U6 d) m.at_.toNat) i).a.toNat)) (mp (oppP (ga (tabL d false (4 * d.crs.length)) (ga (ga (U6 d) m.at_.toNat) i).a.toNat)) ((ga (ga (U6 d) m.at_.toNat) i).a) (mp (ga (tabL d false (4 * d.crs.length)) (ga (ga (U6 d) m.at_.toNat) i).a.toNat) (U1g d ((oppP (ga (tabL d true (4 * d.crs.length)) (ga (ga (U6 d) m.at_.toNat) i).a.toNat)).1) ((oppP (ga (tabL d true (4 * d.crs.length)) (ga (ga (U6 d) m.at_.toNat) i).a.toNat)).2)) es))).getD 0) (mp (oppP (ga (tabL d false (4 * d.crs.length)) (ga (ga (U6 d) m.at_.toNat) i).a.toNat)) ((ga (ga (U6 d) m.at_.toNat) i).a) (mp (ga (tabL d false (4 * d.crs.length)) (ga (ga (U6 d) m.at_.toNat) i).a.toNat) (U1g d ((oppP (ga (tabL d true (4 * d.crs.length)) (ga (ga (U6 d) m.at_.toNat) i).a.toNat)).1) ((oppP (ga (tabL d true (4 * d.crs.length)) (ga (ga (U6 d) m.at_.toNat) i).a.toNat)).2)) es)))) (k := (oppP (ga (tabL d true (4 * d.crs.length)) (ga (ga (U6 d) m.at_.toNat) i).a.toNat))) (e := ((ga (ga (U6 d) m.at_.toNat) i).a)) (st := sx1) (i := 0) (H' := [_, _, _, _, _, _, _]) rfl rfl S129 rfl rfl rfl rfl rfl ?_)
       intro w128 S130; clear S129
       refine U10.grow [_] (Hp.le_refl _) S130 ?_; clear S130
       change WA _ _ _ _ _ _ _ _ _ _ _ _ [_, _, _, _, _, _, _]
       refine Um (i := 11) 0 rfl (by kernel_rfl) rfl rfl (fun w130 S132 => ?_)
       refine (U1s (kc := (fun x => Value.agg (cdPl.f x).toArray)) (vc := Value.int .i64) (es := (mp (oppP (ga (tabL d true (4 * d.crs.length)) (ga (ga (U6 d) m.at_.toNat) i).a.toNat)) ((ga (ga (U6 d) m.at_.toNat) i).a) (mp (oppP (ga (tabL d true (4 * d.crs.length)) (ga (ga (U6 d) m.at_.toNat) i).a.toNat)) ((mg (oppP (ga (tabL d true (4 * d.crs.length)) (ga (ga (U6 d) m.at_.toNat) i).a.toNat)) (mp (oppP (ga (tabL d false (4 * d.crs.length)) (ga (ga (U6 d) m.at_.toNat) i).a.toNat)) ((ga (ga (U6 d) m.at_.toNat) i).a) (mp (ga (tabL d false (4 * d.crs.length)) (ga (ga (U6 d) m.at_.toNat) i).a.toNat) (U1g d ((oppP (ga (tabL d true (4 * d.crs.length)) (ga (ga (U6 d) m.at_.toNat) i).a.toNat)).1) ((oppP (ga (tabL d true (4 * d.crs.length)) (ga (ga (U6 d) m.at_.toNat) i).a.toNat)).2)) es))).getD 0) (mp (oppP (ga (tabL d false (4 * d.crs.length)) (ga (ga (U6 d) m.at_.toNat) i).a.toNat)) ((ga (ga (U6 d) m.at_.toNat) i).a) (mp (ga (tabL d false (4 * d.crs.length)) (ga (ga (U6 d) m.at_.toNat) i).a.toNat) (U1g d ((oppP (ga (tabL d true (4 * d.crs.length)) (ga (ga (U6 d) m.at_.toNat) i).a.toNat)).1) ((oppP (ga (tabL d true (4 * d.crs.length)) (ga (ga (U6 d) m.at_.toNat) i).a.toNat)).2)) es))))) (k := (ga (tabL d true (4 * d.crs.length)) (ga (ga (U6 d) m.at_.toNat) i).a.toNat)) (e := (U1g d ((oppP (ga (tabL d false (4 * d.crs.length)) (ga (ga (U6 d) m.at_.toNat) i).a.toNat)).1) ((oppP (ga (tabL d false (4 * d.crs.length)) (ga (ga (U6 d) m.at_.toNat) i).a.toNat)).2))) (i := 0) (H' := [_, _, _, _, _, _, _]) (.inl rfl) rfl S132 rfl rfl rfl rfl uT215 mk190 rfl ?_)
       intro w131 S133; clear S132
       refine U10.grow [_] (Hp.le_refl _) S133 ?_; clear S133
       change WA _ _ _ _ _ _ _ _ _ _ _ _ [_, _, _, _, _, _, _]
       refine Uu (by kernel_rfl) (fun w132 S134 => ?_)
       refine U12 (nmk [0, 5, 6, 43, 44, 45] rfl (U4 (U1 rfl (wlr 0 rfl (Ug rfl rfl rfl (by first | omega | (simp only [ls]; omega))) ?_))))
       refine mvs 1 1 rfl rfl (U5 rfl (U15 ?_))
       intro ax_ hax_
       refine ⟨_, ?hq4m, ⟨i + 1, mp (ga (tabL d true (4 * d.crs.length)) (ga (ga (U6 d) m.at_.toNat) i).a.toNat) (U1g d ((oppP (ga (tabL d false (4 * d.crs.length)) (ga (ga (U6 d) m.at_.toNat) i).a.toNat)).1) ((oppP (ga (tabL d false (4 * d.crs.length)) (ga (ga (U6 d) m.at_.toNat) i).a.toNat)).2)) (mp (oppP (ga (tabL d true (4 * d.crs.length)) (ga (ga (U6 d) m.at_.toNat) i).a.toNat)) ((ga (ga (U6 d) m.at_.toNat) i).a) (mp (oppP (ga (tabL d true (4 * d.crs.length)) (ga (ga (U6 d) m.at_.toNat) i).a.toNat)) ((mg (oppP (ga (tabL d true (4 * d.crs.length)) (ga (ga (U6 d) m.at_.toNat) i).a.toNat)) (mp (oppP (ga (tabL d false (4 * d.crs.length)) (ga (ga (U6 d) m.at_.toNat) i).a.toNat)) ((ga (ga (U6 d) m.at_.toNat) i).a) (mp (ga (tabL d false (4 * d.crs.length)) (ga (ga (U6 d) m.at_.toNat) i).a.toNat) (U1g d ((oppP (ga (tabL d true (4 * d.crs.length)) (ga (ga (U6 d) m.at_.toNat) i).a.toNat)).1) ((oppP (ga (tabL d true (4 * d.crs.length)) (ga (ga (U6 d) m.at_.toNat) i).a.toNat)).2)) es))).getD 0) (mp (oppP (ga (tabL d false (4 * d.crs.length)) (ga (ga (U6 d) m.at_.toNat) i).a.toNat)) ((ga (ga (U6 d) m.at_.toNat) i).a) (mp (ga (tabL d false (4 * d.crs.length)) (ga (ga (U6 d) m.at_.toNat) i).a.toNat) (U1g d ((oppP (ga (tabL d true (4 * d.crs.length)) (ga (ga (U6 d) m.at_.toNat) i).a.toNat)).1) ((oppP (ga (tabL d true (4 * d.crs.length)) (ga (ga (U6 d) m.at_.toNat) i).a.toNat)).2)) es)))), rfl, hax_.sub ⟨rfl, rfl, rfl, rfl, rfl, rfl, trivial⟩, S134.pick [0, 4, 5, 6] [_, _, _, _] (by decide) ⟨rfl, rfl, rfl, rfl, trivial⟩, ?hq4f0, ?hq4f1⟩⟩
       case hq4f0 => omega
       case hq4f1 => (rw [htg, hfg, hes, mp_mp]; rfl)
       case hq4m => omega
     ·refine U16 rfl rfl (nmk [0, 6] rfl (U4 (U2 Z13u Z13v rfl rfl rfl ?_)))
      obtain ⟨hs3, _⟩ := of_decide_eq_true (show decide _ = true from hn40)
      obtain rfl : i = 3 := by omega
      have hPl : PlE d (nowN d (ga (U6 d) m.at_.toNat) 3) := nowN_ok hab hok 3 (by omega)
      have hmc1 : es = nowN d (ga (U6 d) m.at_.toNat) 3 := hes
      rw [hmc1] at S31; clear hmc1
      refine U1 rfl (mvs 0 1 rfl rfl ?_)
      obtain ⟨M94, hle95, S135, hm1⟩ := S31.pubmap (i := 0) (H' := [_, _, _, _]) rfl rfl; clear S31
      replace hsi := hsi.mono hle95
      replace hso := hso.mono hle95
      replace hfa := hfa.mono hle95
      replace hfd := hfd.mono hle95
      replace hr1 := hr1.mono hle95
      obtain ⟨arr1, clk1, hE1⟩ := hm1.ents
      refine wlo 1 2 rfl rfl rfl (wo_range rfl rfl rfl rfl uT215 S135 hE1 S135.m ?_)
      intro r1 w133 S136; clear S135
      refine U5 rfl (nmk [0, 107] rfl (U4 (Uc Z13w 2 rfl rfl rfl ?_)))
      refine U11 (fun mx_ ax_ wx_ => ∃ (sn : Array Nat) (dn : List ((Nat × Nat) × Int)) (lf : List ((Nat × Nat) × Int)) (cs : List Cr), mx_ = lf.length ∧ Env 117 [(0, .pointer (some ⟨ggb, 0, none⟩)), (107, .pointer (some ⟨r1, 0, none⟩))] ax_ ∧ SH wx_ M94 X [Rs.itr gm1 clk1 r1 sn, Rs.box ggb 67 [.pointer (some ⟨ggs, 0, none⟩), .slice fA fv.length fc], Rs.box ggs 70 [vcr, .int .i64 d.loops, .slice iA (tabL d false (4 * d.crs.length)).length ic, .slice oA (tabL d true (4 * d.crs.length)).length oc], Rs.row cdCr vcr cs] ∧ Lft (fun x => Value.agg (cdPl.f x).toArray) (Value.int .i64) arr1 sn lf ∧ (dn ++ lf).Perm (nowN d (ga (U6 d) m.at_.toNat) 3) ∧ cs = U3b d.crs dn) rfl ?_ ?_
      ·intro ax_ hax_
       refine ⟨_, ⟨#[], [], (nowN d (ga (U6 d) m.at_.toNat) 3), d.crs, rfl, hax_.sub ⟨rfl, rfl, trivial⟩, S136.pick [0, 2, 3, 4] [_, _, _, _] (by decide) ⟨rfl, rfl, rfl, rfl, trivial⟩, ?hq5f0, ?hq5f1, ?hq5f2⟩⟩
       case hq5f0 => exact hE1.lft
       case hq5f1 => exact List.Perm.refl _
       case hq5f2 => rfl
      ·rintro m3 a3 w134 ⟨sn, dn, lf, cs, rfl, he3, S137, hlf, hpm, hcs⟩
       clear S136
       refine U1u he3 (c := Z13x) rfl ?_
       clear he3 a3
       refine U2 Z13y Z13z rfl rfl rfl (U1 rfl ?_)
       refine wlo 0 1 rfl rfl rfl (wo_next (i := 0) rfl rfl rfl rfl S137 rfl hE1 S137.m hlf (fun hlf1 => ?_) (fun k1 v1 l1_1 l2_1 sn1 w135 hlf1 hlft1 hlst1 S138 => ?_))
       ·refine wlr 1 rfl (Ul rfl rfl rfl) (U5 rfl (nmk [0, 107, 109] rfl (U4 (U2 Z140 Z141 rfl rfl rfl (U2c Z143 rfl rfl rfl (U16 rfl rfl ?_))))))
        obtain rfl : lf = [] := hlf1
        rw [List.append_nil] at hpm
        have hcl : cs.length = d.crs.length := by rw [hcs]; exact setsL_len _ _
        have e8 : cs = U3b d.crs (nowN d (ga (U6 d) m.at_.toNat) 3) := by rw [hcs]; exact setsL_perm hpm hPl
        refine U2j hC [] rfl trivial ?_
        obtain ⟨M95, hle97, S139, ⟨A1, c1, e1, hr2⟩⟩ := S137.pubrow (i := 3) (H' := [_, _, _, _]) rfl rfl (by show _ * 40 ≤ _; first | omega | (simp only [ls]; omega))
        clear S137; subst e1
        replace hsi := hsi.mono hle97
        replace hso := hso.mono hle97
        replace hfa := hfa.mono hle97
        replace hfd := hfd.mono hle97
        replace hr1 := hr1.mono hle97
        replace hm1 := hm1.mono hle97
        replace hE1 := hE1.mono hle97
        have herr : slE d m = 0 := by unfold slE; rw [if_pos hok3, if_pos hn40]
        refine .inl ⟨herr, _, rfl, _, _, hle95.trans hle97, (S139.pick [1, 2] [_, _] (by decide) ⟨rfl, rfl, trivial⟩).bun, ?_⟩
        rw [show slD d m = ⟨cs, d.loops⟩ from by unfold slD; rw [← e8]]
        exact ⟨rfl, _, _, rfl, hr2⟩
       ·clear S137
        change SH _ _ _ [Rs.itr gm1 clk1 r1 sn1, _, _, _] at S138
        refine wlr 1 rfl (Ul rfl rfl rfl) (U5 rfl (nmk [0, 107, 109] rfl (U4 (U2 Z140 Z141 rfl rfl rfl (U1h Z142 rfl rfl rfl (Uf rfl (nmk [0, 107] rfl (U4 ?_))))))))
        refine Uc Z144 3 rfl rfl rfl (U2 Z145 Z146 rfl rfl rfl (U1 rfl (wlr 0 rfl (run_entry (i := 0) rfl rfl S138 rfl hE1 S138.m hlst1) (wlr 1 rfl (Ul rfl rfl rfl) (wlr 2 rfl (Ul rfl rfl rfl) (wlo 3 4 rfl rfl rfl (Uh (l := [_, _]) rfl rfl rfl zr190 rfl S138 ?_)))))))
        intro gb7 w136 S140; clear S138
        refine wlo 4 5 rfl rfl rfl (U7 (i := 0) (us := [_, _]) (l' := [_, _]) (H' := [_, _, _, _, _]) rfl rfl S140 rfl rfl rfl rfl sz190 rfl rfl rfl rfl ?_)
        intro w137 S141; clear S140
        refine mvs 5 1 rfl rfl (U5 rfl (nmk [0, 107, 14, 15] rfl (U4 ?_)))
        have hmem : (k1, v1) ∈ nowN d (ga (U6 d) m.at_.toNat) 3 := hpm.mem_iff.1 (by rw [hlf1]; simp)
        have hko := hPl.2 k1 (List.mem_map.2 ⟨_, hmem, rfl⟩)
        have hcl : cs.length = d.crs.length := by rw [hcs]; exact setsL_len _ _
        have hk1 : k1.1 < cs.length := by rw [hcl]; exact hko.1
        have hk2 : k1.2 < 4 := hko.2
        refine U1 rfl (mvs 0 1 rfl rfl (wlr 1 rfl (U8 (us := [_, _]) rfl rfl uT190 rfl sz190 (S141.boxcs (i := 0) rfl ⟨rfl, rfl, trivial⟩)) (mvs 2 1 rfl rfl ?_)))
        have S142 := S141.pick [2, 3, 4, 0, 1] [_, _, _, _, _] (by decide) ⟨rfl, rfl, rfl, rfl, rfl, trivial⟩; clear S141
        have S143 : SH _ _ _ (Rs.bun [_, _, _] :: [_, _]) := SH.bunC (A := [_, _, _]) (B := [_, _]) S142; clear S142
        have S144 : SH _ _ _ [_, _, _] := S143.less (i := 0) rfl
        have hcall1 := Set_b cs k1.1 k1.2 v1 (by assumption) (by assumption) (S143.lend1 (i := 0) rfl); clear S144
        refine wlo 3 4 rfl rfl rfl (wo_c1 (i := 0) rfl rfl rfl rfl rfl rfl rfl cf112 S143 rfl hcall1 ?_)
        intro vw138 w138 M96 rw138 hle98 S145 hR1; clear S143
        obtain ⟨huhMX1, hMX1, hR2⟩ := hR1
        rw [hMX1] at S145
        clear hMX1
        subst huhMX1
        subst hR2
        replace S145 : SH _ _ _ (Rs.bun [_, _, _] :: [_, _]) := S145
        have S146 : SH _ _ _ [_, _, _, _, _] := SH.U2y (A := [_, _, _]) (B := [_, _]) S145; clear S145
        refine U5 rfl (U12 (U15 ?_))
        intro ax_ hax_
        refine ⟨_, ?hq6m, ⟨sn1, dn ++ [(k1, v1)], l1_1 ++ l2_1, U1c cs k1.1 k1.2 v1, rfl, hax_.sub ⟨rfl, rfl, trivial⟩, S146.pick [4, 0, 1, 2] [_, _, _, _] (by decide) ⟨rfl, rfl, rfl, rfl, trivial⟩, ?hq6f0, ?hq6f1, ?hq6f2⟩⟩
        case hq6f0 => assumption
        case hq6f1 => (refine List.Perm.trans ?_ hpm; simp only [*, List.append_assoc, List.cons_append, List.nil_append]; exact (List.perm_append_left_iff _).2 (List.perm_middle.symm))
        case hq6f2 => (rw [setsL_snoc, ← hcs])
        case hq6m => (simp only [*, List.length_append, List.length_cons]; omega)
   ·have hok3 : 0 ≤ m.at_ ∧ m.at_ < ((U6 d).length : Int) := by omega
    have herr : slE d m = 8 := by unfold slE; rw [if_pos hok3, if_neg (by rw [hn40]; exact Bool.false_ne_true)]
    refine U2e (k := 3) rfl rfl rfl rfl rfl rfl rfl cf109 S28 (U25 8 S28.lend) ?_
    intro w9 M9 hle9 S9
    subst hC
    exact .inr ⟨by rw [herr]; first | decide | assumption, by rw [herr], M9, (Hp.le_refl _).trans hle9, S9.pick [] [] (by decide) trivial⟩
  ·have herr : slE d m = 3 := by unfold slE; rw [if_neg (by omega)]
   refine U37 (i := 13) 0 rfl (by kernel_rfl) rfl rfl rfl rfl rfl rfl rfl cf109 (fun w9 S9 => U25 3 S9.lend) ?_
   intro w9 M9 hle9 S9
   subst hC
   exact .inr ⟨by rw [herr]; first | decide | assumption, by rw [herr], M9, (Hp.le_refl _).trans hle9, S9.pick [] [] (by decide) trivial⟩
 ·refine Ur (i := 4) (d := 20) 9 rfl (by kernel_rfl) (by kernel_rfl) (by kernel_rfl) ⟨_, _, _, rfl, rfl, rfl, rfl⟩ rfl rfl ?_
  refine Ur (i := 5) (d := 21) 8 rfl (by kernel_rfl) (by kernel_rfl) (by kernel_rfl) ⟨_, _, _, rfl, rfl, rfl, rfl⟩ rfl rfl ?_
  refine Ur (i := 6) (d := 22) 7 rfl (by kernel_rfl) (by kernel_rfl) (by kernel_rfl) ⟨_, _, _, rfl, rfl, rfl, rfl⟩ rfl rfl ?_
  refine Ur (i := 7) (d := 23) 6 rfl (by kernel_rfl) (by kernel_rfl) (by kernel_rfl) ⟨_, _, _, rfl, rfl, rfl, rfl⟩ rfl rfl ?_
  refine Ur (i := 8) (d := 24) 5 rfl (by kernel_rfl) (by kernel_rfl) (by kernel_rfl) ⟨_, _, _, rfl, rfl, rfl, rfl⟩ rfl rfl ?_
  refine Ur (i := 9) (d := 25) 4 rfl (by kernel_rfl) (by kernel_rfl) (by kernel_rfl) ⟨_, _, _, rfl, rfl, rfl, rfl⟩ rfl rfl ?_
  refine Ur (i := 10) (d := 26) 3 rfl (by kernel_rfl) (by kernel_rfl) (by kernel_rfl) ⟨_, _, _, rfl, rfl, rfl, rfl⟩ rfl rfl ?_
  refine Ur (i := 11) (d := 27) 2 rfl (by kernel_rfl) (by kernel_rfl) (by kernel_rfl) ⟨_, _, _, rfl, rfl, rfl, rfl⟩ rfl rfl ?_
  refine wap 12 1 rfl (by kernel_rfl) (fun _ => U1r rfl rfl rfl) ?_
  have herr : slE d m = 3 := by unfold slE; rw [if_neg (by omega)]
  refine U37 (i := 13) 0 rfl (by kernel_rfl) rfl rfl rfl rfl rfl rfl rfl cf109 (fun w9 S9 => U25 3 S9.lend) ?_
  intro w9 M9 hle9 S9
  subst hC
  exact .inr ⟨by rw [herr]; first | decide | assumption, by rw [herr], M9, (Hp.le_refl _).trans hle9, S9.pick [] [] (by decide) trivial⟩
end Go.Proofs.YthppkofceancjaaGreat
namespace Go.Proofs.YthppkofceancjaaGreat
open Go.ChangeShapes Go.WideShapes Go.ChangeAt Go.RowKit
namespace InF
section
variable {P : Program} {n : Nat} {C : Ctx} {c : Code} {s : List K} {L : List (Nat × Value)} {w : World} {M : Hp} {X : Fr} {H : List Rs}
theorem ws_retQ (hk : kind c = 6) (h : ∀ a, Env n L a → C.Q .ret a w) : WS P n C c s L w := by
  have hpr : ∀ {s : List K} {a : Act} {w : World}, post P C [] .ret a w → post P C s .ret a w := by
    intro s
    induction s with
    | nil => exact fun h => h
    | cons x s ih => intro a w h; cases x <;> exact ih h
  intro a ha
  rw [kind_ret hk]
  exact wpIn_ret (hpr (h a ha))
theorem post_ret : ∀ {s : List K} {a : Act} {w : World}, C.Q .ret a w → post P C s .ret a w := by
  intro s
  induction s with
  | nil => exact fun h => h
  | cons x s ih => intro a w h; cases x <;> exact ih h
end
end InF
structure EnvD (D : List Deferred) (n : Nat) (L : List (Nat × Value)) (a : Act) : Prop where
  sz : a.tmps.size = n
  df : a.defers = D
  at_ : ∀ t v, lk L t = some v → a.tmps.getD t undef = v
section
variable {D : List Deferred} {n : Nat} {L L2 : List (Nat × Value)} {a : Act}
theorem EnvD.toEnv (h : EnvD D n L a) : Env n L { a with defers := [] } := ⟨h.sz, rfl, h.at_⟩
theorem EnvD.eval (h : EnvD D n L a) {x : Operand} {v : Value} (hx : oev L x = some v) : a.eval x = v := h.toEnv.eval hx
theorem EnvD.put (h : EnvD D n L a) {d : Nat} (hd : d < n) (v : Value) : EnvD D n ((d, v) :: L) (a.put (some d) v) := ⟨(h.toEnv.put hd v).sz, h.df, (h.toEnv.put hd v).at_⟩
theorem EnvD.sub (h : EnvD D n L a) (hs : Sub L L2) : EnvD D n L2 a := ⟨h.sz, h.df, fun t v hv => h.at_ t v (hs.lk t v hv)⟩
end
namespace InD
theorem oper_d (C : InF.Ctx) {P : Program} {o : Oper} {a : Act} {w : World} {next : Act → World → Prop} {Q : Exit → Act → World → Prop} (hnd : ∀ c, o.op ≠ .defer c) (h : o.wp P { a with defers := [] } w (fun a' w' => a'.defers = [] ∧ next { a' with defers := a.defers } w') (fun e a' w' => Q e { a' with defers := a.defers } w')) : o.wpIn C.F 0 P a w next Q := by
  obtain ⟨tm, df⟩ := a
  have hput : ∀ v, ({ Act.put { tmps := tm, defers := [] } o.dst v with defers := df } : Act) = Act.put { tmps := tm, defers := df } o.dst v := fun v => by cases o.dst <;> rfl
  refine ⟨fun f _ => C.F_fn f, ?_⟩
  rw [Oper.semAt_eq _ _ _ hnd]
  unfold Oper.wp at h
  replace h : o.upon P { tmps := tm, defers := [] } (fun a' w' => a'.defers = [] ∧ next { a' with defers := df } w') (fun e a' w' => Q e { a' with defers := df } w') ((execOp (Act.eval { tmps := tm, defers := df }) o).run P w) := h
  generalize (execOp (Act.eval { tmps := tm, defers := df }) o).run P w = r at h ⊢
  cases r with
  | ok nx w' =>
    cases nx with
    | value v =>
      replace h : next { Act.put { tmps := tm, defers := [] } o.dst v with defers := df } w' := h.2
      rw [hput] at h; exact h
    | skip =>
      replace h : next { Act.put { tmps := tm, defers := [] } o.dst undef with defers := df } w' := h.2
      rw [hput] at h; exact h
    | defer d =>
      have h1 : (Act.put { tmps := tm, defers := [d] } o.dst undef).defers = [] := h.1
      cases hd : o.dst <;> (rw [hd] at h1; cases h1)
    | enter f args =>
      refine ⟨C.U40, InF.callsF C (Calls.mono h ?_)⟩
      rintro e w2 hh
      cases e with
      | returned v =>
        replace hh : next { Act.put { tmps := tm, defers := [] } o.dst v with defers := df } w2 := hh.2
        rw [hput] at hh; exact hh
      | panicked chain => exact hh
      | outgrown =>
        obtain ⟨a9, w9, hw⟩ := hh
        exact ⟨{ a9 with defers := df }, w9, hw⟩
    | row row args =>
      refine ⟨C.U40, InF.rowsF C ?_⟩
      intro c cs
      obtain ⟨v, w2, hr, hs⟩ := h c cs
      replace hr : next { Act.put { tmps := tm, defers := [] } o.dst v with defers := df } w2 := hr.2
      rw [hput] at hr
      exact ⟨v, w2, hr, hs⟩
    | _ => exact h.elim
  | halt x w' =>
    cases x with
    | panic v => exact h
    | _ => exact h.elim
def WS (P : Program) (D : List Deferred) (n : Nat) (C : InF.Ctx) (c : Code) (s : List K) (L : List (Nat × Value)) (w : World) : Prop := ∀ a, EnvD D n L a → c.wpIn C.F 0 P (InF.post P C s) a w
def NM (P : Program) (D : List Deferred) (n : Nat) (C : InF.Ctx) (s : List K) (L : List (Nat × Value)) (w : World) : Prop := ∀ a, EnvD D n L a → InF.post P C s .normal a w
def WL (P : Program) (D : List Deferred) (n : Nat) (C : InF.Ctx) (c : Code) (k : Nat) (s : List K) (L : List (Nat × Value)) (w : World) : Prop := ∀ a, EnvD D n L a → wpListIn C.F 0 P (rg c) (InF.post P C s) ((rg c).toList.drop k) a w
section
variable {P : Program} {n : Nat} {C : InF.Ctx} {D : List Deferred} {c : Code} {s : List K} {L : List (Nat × Value)} {w : World}
theorem U1a (L2 : List (Nat × Value)) (hs : Sub L L2) (h : NM P D n C s L2 w) : NM P D n C s L w := fun a ha => h a (ha.sub hs)
theorem U2 (a b : Code) (hk : kind c = 1) (ha : cL c = a) (hb : cR c = b) (h : WS P D n C a (.thn b :: s) L w) : WS P D n C c s L w := by
  subst ha; subst hb
  intro a ha
  rw [kind_seq hk]
  exact wpIn_seq (h a ha)
theorem U4 (h : WS P D n C c s L w) : NM P D n C (.thn c :: s) L w := fun a ha => h a ha
theorem U1 (hk : kind c = 7) (h : WL P D n C c 0 s L w) : WS P D n C c s L w := by
  intro a ha
  rw [kind_region hk]
  exact wpIn_region_list (h a ha)
theorem U5 {k : Nat} (hk : op c k = none) (h : NM P D n C s L w) : WL P D n C c k s L w := by
  intro a ha
  have : ((rg c).toList.drop k) = [] := by
    unfold op at hk
    rw [U1v] at hk
    exact List.drop_eq_nil_of_le (by simpa using hk)
  rw [this]
  exact wpListIn_nil (h a ha)
theorem Us {k k' : Nat} {o : Oper} (ho : op c k = some o) (hk : k' = k.succ) (hg : o.guard = none) (h : WO P n o L w (fun L' w' => WL P D n C c k' s L' w')) (hnd : InF.ndOp o = true := by rfl) : WL P D n C c k s L w := by
  intro a ha
  rw [U43 ho]
  subst hk
  refine wpListIn_plain hg fun K hK => ?_
  exact oper_d C (InF.ndOp_spec hnd) (h _ ha.toEnv _ _ fun L' a' w' he hw => ⟨he.df, hK _ _ (hw _ ⟨he.sz, ha.df, he.at_⟩)⟩)
end
end InD
end Go.Proofs.YthppkofceancjaaGreat
namespace Go.Proofs.YthppkofceancjaaGreat
open Go.ChangeShapes Go.WideShapes Go.ChangeAt Go.RowKit
section
variable {w : World} {M : Hp} {X : Fr} {H : List Rs} {Ds : List Nat}
end
namespace InD
section
variable {P : Program} {n : Nat} {C : InF.Ctx} {c : Code} {s : List K} {L : List (Nat × Value)} {w : World} {M : Hp} {X : Fr} {H : List Rs}
end
end InD
namespace InF.G
theorem Uk {P : Program} {n : Nat} {C : InF.Ctx} {c : Code} {s : List K} {L : List (Nat × Value)} {w : World} {fn : Func} {R : Ending → World → Prop} (hC : C.Q = bodyPostM Fence.wide 0 P fn R) {rs : List ResultVar} (vs : List Value) (hr : fn.results = rs.toArray) (hk : kind c = 6) (h : ResIs P L w rs vs) (hR : R (.returned (tup vs)) w) : InF.WS P n C c s L w := by
  refine InF.ws_retQ hk fun a ha => ?_
  rw [hC]
  show LeavesInM Fence.wide 0 P fn a.tmps R a.defers .returning w
  rw [ha.df]
  exact ⟨tup vs, U2v ha hr h, hR⟩
end InF.G
end Go.Proofs.YthppkofceancjaaGreat
namespace Go.Proofs.YthppkofceancjaaGreat
open Go.ChangeShapes Go.WideShapes Go.ChangeAt Go.RowKit
namespace InF
section
variable {P : Program} {n : Nat} {C : Ctx} {c : Code} {s : List K} {L : List (Nat × Value)} {w : World} {ch : List PanicEntry}
theorem U42 : ∀ {s : List K} {a : Act} {w : World}, C.Q (.panic ch) a w → post P C s (.panic ch) a w
  | [], _, _, h => h
  | .thn c :: s, _, _, h => U42 (s := s) h
  | .lp I :: s, _, _, h => U42 (s := s) h
  | .blk i :: s, _, _, h => U42 (s := s) h
theorem wl_deferD {k k' : Nat} {o : Oper} {ca : Call} {fo : Operand} {fid : FuncId} {cap : List Value} (ho : op c k = some o) (hk : k' = k.succ) (hg : o.guard = none) (hd : o.dst = none) (hop : o.op = .defer ca) (hca : ca.callee = .value fo) (hfo : oev L fo = some (.func (.func fid) #[] cap.toArray)) (hxs : ca.args = #[]) (hr : C.r = none)
    (h : InD.WL P [{ target := .fn (.func fid) cap.toArray, args := #[] }] n C c k' s L w) : WL P n C c k s L w := by
  intro a ha
  rw [U43 ho]
  subst hk
  refine wpListIn_plain hg fun K hK => ?_
  refine ⟨fun f _ => C.F_fn f, ?_⟩
  have hF : C.F.round = none := by unfold Ctx.F; rw [hr]; rfl
  have hrun : (o.semAt C.F.round a.eval).run P w = .ok (.defer { target := .fn (.func fid) cap.toArray, args := #[] }) w := by
    rw [hF, Oper.semAt_none]
    unfold execOp
    simp only [hop, resolve, hca, ha.eval hfo, hxs, Deferred.ofValue, Sem.run_bind, Sem.run_pure, Result.andThen_ok]
    simp
  rw [hrun, Oper.uponIn_defer, hd]
  refine hK _ _ (h _ ⟨ha.sz, ?_, ha.at_⟩)
  show _ :: a.defers = _
  rw [ha.df]
end
end InF
namespace InD
section
variable {P : Program} {n d : Nat} {C : InF.Ctx} {c : Code} {s : List K} {L : List (Nat × Value)} {w : World} {D : List Deferred}
theorem wl_call2 {k k' : Nat} {o : Oper} {f : FuncId} {vs : List Value} {ca : Call} {fo : Operand} {xs : List Operand} (ho : op c k = some o) (hk : k' = k.succ) (hg : o.guard = none) (hd : o.dst = some d) (hop : o.op = .call ca) (hca : ca.callee = .value fo) (hfo : oev L fo = some (.func (.func f) #[] #[]))
    (hxs : ca.args = xs.toArray) (hvs : oevs L xs = some vs) (hn : Nat.blt d n = true) (hen : ∀ args w, (callFunc f args).run P w = .ok (.enter f args) w)
    {R1 : Value → World → Prop} {R2 : List PanicEntry → World → Prop} (hcall : Calls P f vs.toArray w fun e w' => (∃ v, e = .returned v ∧ R1 v w') ∨ (∃ ch, e = .panicked ch ∧ R2 ch w'))
    (h1 : ∀ v w', R1 v w' → WL P D n C c k' s ((d, v) :: L) w') (h2 : ∀ ch w', R2 ch w' → ∀ a, EnvD D n L a → C.Q (.panic ch) a w') : WL P D n C c k s L w := by
  intro a ha
  rw [U43 ho]
  subst hk
  refine wpListIn_plain hg fun K hK => ?_
  have he : List.map a.eval xs = vs := ha.toEnv.evals hvs
  have hr : (execOp a.eval o).run P w = .ok (.enter f vs.toArray) w := by
    unfold execOp
    simp only [hop, resolve, hca, ha.eval hfo, hxs, List.map_toArray, he, Deferred.ofValue, Sem.run_bind, Sem.run_pure, Result.andThen_ok, invoke, Array.empty_append, Array.append_empty]
    exact hen _ _
  refine ⟨fun f _ => C.F_fn f, ?_⟩
  rw [Oper.semAt_eq _ _ _ (fun c e => by rw [e] at hop; cases hop), hr, Oper.uponIn_enter, hd]
  refine ⟨C.U40, InF.callsF C (Calls.mono hcall ?_)⟩
  rintro e w' (⟨v, rfl, hR⟩ | ⟨ch, rfl, hR⟩)
  · exact hK _ _ (h1 v w' hR _ (ha.put (by simpa using hn) v))
  · exact InF.U42 (h2 ch w' hR a ha)
theorem ws_retQ (hk : kind c = 6) (h : ∀ a, EnvD D n L a → C.Q .ret a w) : WS P D n C c s L w := by
  intro a ha
  rw [kind_ret hk]
  exact wpIn_ret (InF.post_ret (h a ha))
end
end InD
theorem leave_one {P : Program} {fn : Func} {tm : Array Value} {R : Ending → World → Prop} {fid : FuncId} {cap : List Value} {u : FrameMode} {w : World} (hu : u ≠ .run) (hen : ∀ args w, (callFunc fid args).run P w = .ok (.enter fid args) w)
    (h : CallsDIn Fence.wide 0 P fid cap.toArray u w fun e u' w' => ∃ v, e = .returned v ∧ settle u' = .returning ∧ ∃ vv, (results fn tm).run P w' = .ok vv w' ∧ R (.returned vv) w') :
    LeavesInM Fence.wide 0 P fn tm R [{ target := .fn (.func fid) cap.toArray, args := #[] }] u w := by
  refine ⟨hu, .inr ⟨fun h => (by cases h), .func fid, cap.toArray, fid, cap.toArray, rfl, ?_, fun _ _ => trivial, ?_⟩⟩
  · simp only [invoke, Array.empty_append, Array.append_empty]
    exact hen _ _
  · refine CallsDIn.mono h ?_
    rintro e u' w' ⟨v, rfl, hs, vv, h1, h2⟩
    show LeavesInM Fence.wide 0 P fn tm R [] (settle u') w'
    rw [hs]
    exact ⟨vv, h1, h2⟩
theorem wpSIn_recover {F : Fence} {P : Program} {n m id d0 d1 : Nat} {c : Code} {o0 o1 : Oper} {ca : Call} {L : List (Nat × Value)} {a : Act} {cs cs' : List Frame} {v : Value} {w : World} {Q : Exit → Act → List Frame → World → Prop} (hF : ∀ f, F.fn f) (hc : c = .region id #[o0, o1] false) (ha : Env m L a) (hop0 : o0.op = .call ca) (hca : ca.callee = .builtin .recover) (hxs : ca.args = #[]) (hg0 : o0.guard = none) (hd0 : o0.dst = some d0)
    (hop1 : o1.op = .assign (.tmp d0)) (hg1 : o1.guard = none) (hd1 : o1.dst = some d1) (hn : (Nat.blt d0 m && Nat.blt d1 m) = true) (hrec : recoverD cs = some (v, cs') ∨ (recoverD cs = none ∧ v = .nilIface ∧ cs' = cs)) (h : ∀ a2, Env m ((d1, v) :: (d0, v) :: L) a2 → Q .normal a2 cs' w) : c.wpSIn F n P Q a cs w := by
  subst hc
  simp only [Bool.and_eq_true] at hn
  refine wpSIn_region ?_
  have e0 : ∀ b : Act, Region.wanted o0 (yielded #[o0, o1] b.tmps) = true := fun b => by unfold Region.wanted; rw [hg0]
  have e1 : ∀ b : Act, Region.wanted o1 (yielded #[o0, o1] b.tmps) = true := fun b => by unfold Region.wanted; rw [hg1]
  have r0 : (execOp a.eval o0).run P w = .ok .recover w := by
    unfold execOp
    simp only [hop0, resolve, hca, hxs, Sem.run_bind, Sem.run_pure, Result.andThen_ok]
    rfl
  have ha1 := ha.put (d := d0) (by simpa using hn.1) v
  have r1 : (execOp (a.put (some d0) v).eval o1).run P w = .ok (.value v) w := by
    unfold execOp
    simp only [hop1, ha1.eval (x := .tmp d0) (v := v) (by simp [oev, lk])]
    rfl
  have ha2 := ha1.put (d := d1) (by simpa using hn.2) v
  show wpOpsSIn F n P #[o0, o1] Q [0, 1] a cs w
  simp only [wpOpsSIn, List.getElem?_toArray, List.getElem?_cons_zero, List.getElem?_cons_succ, e0, e1, if_true, r0, hd0]
  refine ⟨fun f _ => hF f, ?_⟩
  rcases hrec with hrec | ⟨hrec, rfl, rfl⟩
  · rw [hrec]
    simp only [r1, hd1]
    exact ⟨fun f _ => hF f, h _ ha2⟩
  · rw [hrec]
    simp only [r1, hd1]
    exact ⟨fun f _ => hF f, h _ ha2⟩
section
variable {P : Program} {n : Nat} {o : Oper} {L : List (Nat × Value)} {w : World} {t t' T : TypeId} {x : Operand} {v : Value}
theorem run_neqI0 {ms} (ho : o.op = .binOp .neq t x (.const .nilIface) t') (hx : oev L x = some .nilIface) (hy : oev L (.const .nilIface) = some .nilIface) (hu : P.underlying t = some (.interface ms)) : Run P o L w (.bool false) w := by
  intro n c hc
  unfold execOp
  have h1 : ∀ w, (eqGuard .neq t x (.const .nilIface) .nilIface .nilIface).run P w = .ok () w := fun w => by rw [eqGuard_nil_constR]; rfl
  have h2 : ∀ w, (Op.equal t .nilIface .nilIface).run P w = .ok true w := fun w => by
    have h : ∀ d : Nat, (Op.equalIn (d + 1) t .nilIface .nilIface).run P w = .ok true w := fun d => by simp [Op.equalIn, run_underlying hu]
    exact h 9999
  simp only [ho, hc.eval hx, hc.eval hy, h1, binOp, h2, Sem.run_bind, Result.andThen_ok, Sem.run_pure, Bool.not_true]
theorem run_neqI1 {ms} {y : Operand} (ho : o.op = .binOp .neq t x y t') (hx : oev L x = some (.iface T v)) (hy : oev L y = some .nilIface) (hu : P.underlying t = some (.interface ms)) : Run P o L w (.bool true) w := by
  intro n c hc
  unfold execOp
  have h1 : ∀ w, (eqGuard .neq t x y (.iface T v) .nilIface).run P w = .ok () w := fun w => rfl
  have h2 : ∀ w, (Op.equal t (.iface T v) .nilIface).run P w = .ok false w := fun w => by
    have h : ∀ d : Nat, (Op.equalIn (d + 1) t (.iface T v) .nilIface).run P w = .ok false w := fun d => by simp [Op.equalIn, run_underlying hu]
    exact h 9999
  simp only [ho, hc.eval hx, hc.eval hy, h1, binOp, h2, Sem.run_bind, Result.andThen_ok, Sem.run_pure, Bool.not_false]
theorem run_assertOk {s : TypeId} {fs : Array Field} (ho : o.op = .typeAssert x s T true) (hx : oev L x = some (.iface T v)) (hu : P.underlying T = some (.struct fs)) : Run P o L w (.tuple [v, .bool true].toArray) w := by
  intro n c hc
  unfold execOp
  simp only [ho, hc.eval hx, Instr.typeAssert, Sem.run_bind, run_underlying hu, Result.andThen_ok, if_true, Sem.run_pure]
theorem run_eqFN1 {ps rs b} {y : Operand} (ho : o.op = .binOp .eql t x y t') (hx : oev L x = some .nilFunc) (hy : oev L y = some .nilFunc) (hu : P.underlying t = some (.func ps rs b)) : Run P o L w (.bool true) w := by
  intro n c hc
  unfold execOp
  have h1 : ∀ w, (eqGuard .eql t x y .nilFunc .nilFunc).run P w = .ok () w := fun w => rfl
  have h2 : ∀ w, (Op.equal t .nilFunc .nilFunc).run P w = .ok true w := fun w => by
    have h : ∀ d : Nat, (Op.equalIn (d + 1) t .nilFunc .nilFunc).run P w = .ok true w := fun d => by simp [Op.equalIn, run_underlying hu]
    exact h 9999
  simp only [ho, hc.eval hx, hc.eval hy, h1, binOp, h2, Sem.run_bind, Result.andThen_ok, Sem.run_pure]
theorem run_eqFN0 {ps rs b} {y : Operand} {fn : Fn} {fi cp : Array Value} (ho : o.op = .binOp .eql t x y t') (hx : oev L x = some (.func fn fi cp)) (hy : oev L y = some .nilFunc) (hu : P.underlying t = some (.func ps rs b)) : Run P o L w (.bool false) w := by
  intro n c hc
  unfold execOp
  have h1 : ∀ w, (eqGuard .eql t x y (.func fn fi cp) .nilFunc).run P w = .ok () w := fun w => rfl
  have h2 : ∀ w, (Op.equal t (.func fn fi cp) .nilFunc).run P w = .ok false w := fun w => by
    have h : ∀ d : Nat, (Op.equalIn (d + 1) t (.func fn fi cp) .nilFunc).run P w = .ok false w := fun d => by simp [Op.equalIn, run_underlying hu]
    exact h 9999
  simp only [ho, hc.eval hx, hc.eval hy, h1, binOp, h2, Sem.run_bind, Result.andThen_ok, Sem.run_pure]
theorem env_args {args : List Value} (hsz : Nat.ble args.length n = true) : Env n (argL 0 args) { tmps := args.toArray ++ Array.replicate (n - args.toArray.size) undef, defers := [] } := by
  refine ⟨?_, rfl, fun t v hv => ?_⟩
  · simp; have : args.length ≤ n := by simpa using hsz
    omega
  · have := (lk_argL args 0 t v hv).2
    rw [Nat.sub_zero] at this
    have hlt := (List.getElem?_eq_some_iff.1 this).1
    simp only [Array.getD_eq_getD_getElem?]
    rw [Array.getElem?_append_left (by simpa using hlt)]
    simp [this]
end
theorem callsD_recover {P : Program} {n m fid id d0 d1 : Nat} {fn : Func} {b c0 : Code} {args : List Value} {u u2 : FrameMode} {w : World} {R : Ending → FrameMode → World → Prop} {o0 o1 : Oper} {ca : Call} (v : Value) (hf : P.funcs[fid]? = some fn) (hb : fn.body = some b) (hres : fn.results = #[]) (hm : fn.ntmps = m) (hsz : Nat.ble args.length m = true) (hk : kind b = 1) (hc0 : cL b = c0) (hc : c0 = .region id #[o0, o1] false) (hop0 : o0.op = .call ca) (hca : ca.callee = .builtin .recover) (hxs : ca.args = #[]) (hg0 : o0.guard = none) (hd0 : o0.dst = some d0)
    (hop1 : o1.op = .assign (.tmp d0)) (hg1 : o1.guard = none) (hd1 : o1.dst = some d1) (hn : (Nat.blt d0 m && Nat.blt d1 m) = true) (hrec : ∀ (c₀ : Frame) (cs : List Frame), c₀.mode = u → recoverD (c₀ :: cs) = some (v, { c₀ with mode := u2 } :: cs) ∨ (recoverD (c₀ :: cs) = none ∧ v = .nilIface ∧ u2 = u))
    (h : ∀ C : InF.Ctx, C.r = none → (∀ w, R (.returned (.tuple #[])) u2 w → InF.NM P m C [] [] w) → InF.WS P m C (cR b) [] ((d1, v) :: (d0, v) :: argL 0 args) w) : CallsDIn Fence.wide n P fid args.toArray u w R := by
  refine callsDIn_of_wpSIn hf hb trivial fun c₀ cs hu => ?_
  rw [kind_seq hk, hc0]
  refine wpSIn_seq ?_
  have ha : Env m (argL 0 args) { tmps := args.toArray ++ Array.replicate (fn.ntmps - args.toArray.size) undef, defers := [] } := by rw [hm]; exact env_args (n := m) hsz
  have key : ∀ cs', cs' = { c₀ with mode := u2 } :: cs → recoverD (c₀ :: cs) = some (v, cs') ∨ (recoverD (c₀ :: cs) = none ∧ v = .nilIface ∧ cs' = c₀ :: cs) → c0.wpSIn Fence.wide n P (Exit.thenS ((cR b).wpSIn Fence.wide n P (bodyPostS P fn c₀ cs R)) (bodyPostS P fn c₀ cs R)) { tmps := args.toArray ++ Array.replicate (fn.ntmps - args.toArray.size) undef, defers := [] } (c₀ :: cs) w := by
    intro cs' hcs hr
    refine wpSIn_recover (m := m) (fun _ => trivial) hc ha hop0 hca hxs hg0 hd0 hop1 hg1 hd1 hn hr fun a2 ha2 => ?_
    refine wpSIn_of_wpIn rfl ?_
    have h1 := h ⟨fun e a' w' => bodyPostS P fn c₀ cs R e a' cs' w', none⟩ rfl ?_ a2 ha2
    · exact wpIn_wide.2 (wpIn_wide.1 h1)
    · intro w' hR a' ha'
      refine ⟨ha'.df, u2, hcs, .tuple #[], ?_, hR⟩
      exact U2v (vs := []) (rs := []) (L := []) ha' (by rw [hres]) trivial
  rcases hrec c₀ cs hu with hr | ⟨h1, h2, h3⟩
  · exact key _ rfl (.inl hr)
  · refine key (c₀ :: cs) ?_ (.inr ⟨h1, h2, rfl⟩)
    rw [h3, ← hu]
end Go.Proofs.YthppkofceancjaaGreat
namespace Go.Proofs.YthppkofceancjaaGreat
open Go.ChangeShapes Go.WideShapes Go.ChangeAt Go.RowKit
def vcF : Option Nat → Value
 | none => .nilFunc
 | some f => .func (.func f) #[] #[]
def kindsL : List (Int × Option Nat) := [(1, some 67), (2, some 68), (3, some 69), (4, some 70), (5, some 71)]
def kindF (k : Int) : Option Nat := (mg k kindsL).getD none
def mvE (d : Dg) (m : Mv) : Int := if m.kd = 1 then curE d m else if m.kd = 2 then uncE d m else if m.kd = 3 then puE d m else if m.kd = 4 then plE d m else slE d m
def mvD (d : Dg) (m : Mv) : Dg := if m.kd = 1 then curD d m else if m.kd = 2 then uncD d m else if m.kd = 3 then puD d m else if m.kd = 4 then plD d m else slD d m
theorem kindF_all {k : Int} {f : Nat} (h : kindF k = some f) : k = 1 ∧ f = 67 ∨ k = 2 ∧ f = 68 ∨ k = 3 ∧ f = 69 ∨ k = 4 ∧ f = 70 ∨ k = 5 ∧ f = 71 := by
 unfold kindF kindsL at h
 simp only [mg] at h
 split at h
 ·rename_i e; simp at h; omega
 ·split at h
  ·rename_i e; simp at h; omega
  ·split at h
   ·rename_i e; simp at h; omega
   ·split at h
    ·rename_i e; simp at h; omega
    ·split at h
     ·rename_i e; simp at h; omega
     ·simp at h
theorem kindF_en {k : Int} {f : Nat} (h : kindF k = some f) : ∀ args w, (callFunc f args).run Tryz.prog w = .ok (.enter f args) w := by
 rcases kindF_all h with ⟨rfl, rfl⟩ | ⟨rfl, rfl⟩ | ⟨rfl, rfl⟩ | ⟨rfl, rfl⟩ | ⟨rfl, rfl⟩
 ·exact cf67
 ·exact cf68
 ·exact cf69
 ·exact cf70
 ·exact cf71
theorem Method_m {w : World} {M : Hp} {X : Fr} {f : Nat} (m : Mv) (hk : kindF m.kd = some f) (d : Dg) {ggb ggs : Nat} {vcr : Value} {iA oA fA : Option Addr} {ic oc fc : Nat} {fv : List SlV} (hsi : RdA cdPl M iA ic (tabL d false (4 * d.crs.length))) (hso : RdA cdPl M oA oc (tabL d true (4 * d.crs.length))) (hfa : RdA (cdV 141) M fA fc fv) (hfd : Rd2 cdDa M fv (U6 d)) (hn : d.crs.length ≤ 16) (hab : U1b d = true) (hlo : 0 ≤ d.loops ∧ d.loops ≤ 16) (S : SH w M X [Rs.bun (bnL d ggb ggs vcr iA oA fA ic oc fc fv)]) : Cm f [.pointer (some ⟨ggb, 0, none⟩), .agg [.int .i64 m.kd, .int .i64 m.at_, .int .i64 m.by_, .int .i64 m.ua, .bool m.ub, .int .i64 m.va, .bool m.vb, .bool m.ov].toArray] w M X (mvE d m) (BnR ggb ggs (.slice fA fv.length fc) (.slice iA (tabL d false (4 * d.crs.length)).length ic) (.slice oA (tabL d true (4 * d.crs.length)).length oc) (mvD d m)) := by
 rcases kindF_all hk with ⟨hq, rfl⟩ | ⟨hq, rfl⟩ | ⟨hq, rfl⟩ | ⟨hq, rfl⟩ | ⟨hq, rfl⟩
 ·rw [show mvE d m = curE d m from by unfold mvE; rw [hq]; rfl, show mvD d m = curD d m from by unfold mvD; rw [hq]; rfl]
  exact Curl_m d m hsi hso hfa hfd hn hab hlo S
 ·rw [show mvE d m = uncE d m from by unfold mvE; rw [hq]; rfl, show mvD d m = uncD d m from by unfold mvD; rw [hq]; rfl]
  exact Uncurl_m d m hsi hso hfa hfd hn hab hlo S
 ·rw [show mvE d m = puE d m from by unfold mvE; rw [hq]; rfl, show mvD d m = puD d m from by unfold mvD; rw [hq]; rfl]
  exact Push_m d m hsi hso hfa hfd hn hab hlo S
 ·rw [show mvE d m = plE d m from by unfold mvE; rw [hq]; rfl, show mvD d m = plD d m from by unfold mvD; rw [hq]; rfl]
  exact Pull_m d m hsi hso hfa hfd hn hab hlo S
 ·rw [show mvE d m = slE d m from by unfold mvE; rw [hq]; rfl, show mvD d m = slD d m from by unfold mvD; rw [hq]; rfl]
  exact Slide_m d m hsi hso hfa hfd hn hab hlo S
theorem Cm.two {f : FuncId} {vs : List Value} {w : World} {M : Hp} {X : Fr} {H : List Rs} {r : Rs} {err : Int} {R : Value → Hp → Rs → Prop} (S : SH w M X H) (hi : nth H 0 = some r) (h : Cm f vs w M (XH w X (H.set 0 Rs.emp)) err R) : Calls Tryz.prog f vs.toArray w fun e w' => (∃ v, e = .returned v ∧ (err = 0 ∧ ∃ M' r', M.le M' ∧ SH w' M' X (H.set 0 r') ∧ R v M' r')) ∨ (∃ ch, e = .panicked ch ∧ (err ≠ 0 ∧ ch = pEnt err ∧ ∃ M', M.le M' ∧ SH w' M' X (H.set 0 Rs.emp))) := by
 refine Calls.mono h ?_
 rintro e w' (⟨h0, v, rfl, M', r', h1, h2, h3⟩ | ⟨h0, rfl, M', h1, h2⟩)
 ·exact .inl ⟨v, rfl, h0, M', r', h1, S.back1 hi h2 rfl, h3⟩
 ·exact .inr ⟨_, rfl, h0, rfl, M', h1, (S.less hi).back h2⟩
theorem opB_ok {d : Dg} (h : opB d = true) : d.crs.length ≤ 16 ∧ U1b d = true ∧ 0 ≤ d.loops ∧ d.loops ≤ 16 := by
 unfold opB at h
 rw [Bool.and_eq_true] at h
 exact mayO h.1
def doP (d : Dg) (m : Mv) : Dg × Int := if opB d = false then (⟨[], 0⟩, 7) else if kindF m.kd = none then (⟨[], 0⟩, 6) else if mvE d m = 0 then (mvD d m, 0) else (⟨[], 0⟩, mvE d m)
def DoR (r : Dg × Int) (u : Value) (N : Hp) : Prop := ∃ A c, u = .tuple [.agg [.slice A r.1.crs.length c, .int .i64 r.1.loops].toArray, .int .i64 r.2].toArray ∧ RdA cdCr N A c r.1.crs
namespace InF
noncomputable def Z147:=Tryz.f30.body.getD .skip
def Z148 := cR Z147
def Z149 := cL Z148
def Z14a := cR Z148
def Z14b := cR Z14a
set_option maxRecDepth 10000 in
theorem catchR {w : World} {p4 p5 : Value} : CallsDIn Fence.wide 0 Tryz.prog 30 [p4, p5].toArray .returning w fun e u' w' => e = .returned (.tuple #[]) ∧ u' = .returning ∧ w' = w := by
 refine callsD_recover (b := Z147) (c0 := cL Z147) (m := 19) (u2 := .returning) (.nilIface) Tryz.func30 rfl rfl Tryz.ntmps30 rfl rfl rfl rfl rfl rfl rfl rfl rfl rfl rfl rfl rfl (fun c₀ cs hu => ?_) (fun C hCr hC => ?_)
 ·exact .inr ⟨by simp [recoverD, hu], rfl, rfl⟩
 refine U2 Z149 Z14a rfl rfl rfl ?_
 refine U1 rfl ?_
 refine Us (k := 0) (k' := 1) rfl rfl rfl (Ub rfl rfl (run_move rfl rfl) ?_)
 refine Us (k := 1) (k' := 2) rfl rfl rfl (Ub rfl rfl (run_neqI0 rfl rfl rfl uT20) ?_)
 refine U5 rfl ?_
 refine U1a [(2, _), (0, _), (1, _), (7, _)] ⟨rfl, rfl, rfl, rfl, trivial⟩ ?_
 refine U4 ?_
 refine U2c Z14b rfl rfl rfl ?_
 refine Uf rfl ?_
 refine U1a [] trivial ?_
 exact hC _ ⟨rfl, rfl, rfl⟩
noncomputable def Z14c:=Tryz.f30.body.getD .skip
def Z14d := cR Z14c
def Z14e := cL Z14d
def Z14f := cR Z14d
def Z14g := cL Z14f
def Z14h := cL Z14g
def Z14i := cR Z14g
def Z14j := cL Z14i
def Z14k := cR Z14i
def Z14l := cL Z14j
def Z14m := cR Z14j
def Z14n := cR Z14m
set_option maxRecDepth 10000 in
theorem catchP {w : World} {M : Hp} {X : Fr} {gp4 gp5 : Nat} {va vb vc : Value} {err : Int} (S : SH w M X [Rs.box gp4 24 [va, vb], Rs.box gp5 29 [vc]]) : CallsDIn Fence.wide 0 Tryz.prog 30 [.pointer (some ⟨gp4, 0, none⟩), .pointer (some ⟨gp5, 0, none⟩)].toArray (.panicking (pEnt err)) w fun e u' w' => e = .returned (.tuple #[]) ∧ settle u' = .returning ∧ SH w' M X [Rs.box gp4 24 [.slice none 0 0, .int .i64 0], Rs.box gp5 29 [.int .i64 err]] := by
 refine callsD_recover (b := Z14c) (c0 := cL Z14c) (m := 19) (u2 := .panicking [{ v := .iface 62 (.agg [Value.int .i64 err].toArray), recovered := true }]) (.iface 62 (.agg [Value.int .i64 err].toArray)) Tryz.func30 rfl rfl Tryz.ntmps30 rfl rfl rfl rfl rfl rfl rfl rfl rfl rfl rfl rfl rfl (fun c₀ cs hu => ?_) (fun C hCr hC => ?_)
 ·exact .inl (by simp [recoverD, hu, pEnt])
 refine U2 Z14e Z14f rfl rfl rfl ?_
 refine U1 rfl ?_
 refine Us (k := 0) (k' := 1) rfl rfl rfl (Ub rfl rfl (run_move rfl rfl) ?_)
 refine Us (k := 1) (k' := 2) rfl rfl rfl (Ub rfl rfl (run_neqI1 rfl rfl rfl uT20) ?_)
 refine U5 rfl ?_
 refine U1a [(2, _), (0, _), (1, _), (7, _)] ⟨rfl, rfl, rfl, rfl, trivial⟩ ?_
 refine U4 ?_
 refine U1h Z14g rfl rfl rfl ?_
 refine U2 Z14h Z14i rfl rfl rfl ?_
 refine U1 rfl ?_
 refine Us (k := 0) (k' := 1) rfl rfl rfl (Ub rfl rfl (run_move rfl rfl) ?_)
 refine Us (k := 1) (k' := 2) rfl rfl rfl (Ub rfl rfl (run_assertOk rfl rfl uT62) ?_)
 refine Us (k := 2) (k' := 3) rfl rfl rfl (Ub rfl rfl (run_move rfl rfl) ?_)
 refine Us (k := 3) (k' := 4) rfl rfl rfl (Ub rfl rfl (Ul rfl rfl rfl) ?_)
 refine Us (k := 4) (k' := 5) rfl rfl rfl (Ub rfl rfl (Ul rfl rfl rfl) ?_)
 refine Us (k := 5) (k' := 6) rfl rfl rfl (Uh (l := [_]) rfl rfl rfl zr62 rfl S ?_)
 intro gb1 w1 S1; clear S
 refine Us (k := 6) (k' := 7) rfl rfl rfl (U7 (i := 0) (us := [_]) (l' := [_]) (H' := [_, _, _]) rfl rfl S1 rfl rfl rfl rfl sz62 rfl rfl rfl rfl ?_)
 intro w2 S2; clear S1
 refine Us (k := 7) (k' := 8) rfl rfl rfl (Ub rfl rfl (run_assign rfl rfl) ?_)
 refine U5 rfl ?_
 refine U1a [(2, _), (0, _), (1, _), (3, _), (4, _)] ⟨rfl, rfl, rfl, rfl, rfl, trivial⟩ ?_
 refine U4 ?_
 refine U2 Z14j Z14k rfl rfl rfl ?_
 refine U2 Z14l Z14m rfl rfl rfl ?_
 refine U1 rfl ?_
 refine Us (k := 0) (k' := 1) rfl rfl rfl (Ub rfl rfl (run_move rfl rfl) ?_)
 refine Us (k := 1) (k' := 2) rfl rfl rfl (Ub rfl rfl (U1j rfl rfl) ?_)
 refine U5 rfl ?_
 refine U1a [(2, _), (0, _), (1, _), (3, _), (14, _)] ⟨rfl, rfl, rfl, rfl, rfl, trivial⟩ ?_
 refine U4 ?_
 refine U2c Z14n rfl rfl rfl ?_
 refine Uf rfl ?_
 refine U1a [(0, _), (1, _), (3, _)] ⟨rfl, rfl, rfl, trivial⟩ ?_
 refine U4 ?_
 have S3 := S2.pick [1, 2, 0] [_, _, _] (by decide) ⟨rfl, rfl, rfl, trivial⟩; clear S2
 refine U29 [_, _] [_] rfl (by kernel_rfl) S3 5 rfl ?_
 clear S3
 change WA _ _ _ _ _ _ _ _ _ _ _ _ [_, _, _]
 refine wa_take (i := 0) (d := 16) 4 rfl (by kernel_rfl) (by kernel_rfl) (by kernel_rfl) rfl rfl rfl (fun M1 N1 w3 hle1 S4 => .inl (run_build (l := [_, _]) rfl rfl st24 rfl rfl)) ?_
 refine wa_takeP (i := 1) (d := 17) 3 rfl (by kernel_rfl) (by kernel_rfl) (by kernel_rfl) rfl rfl rfl (fun w4 => U0 rfl rfl uT62 rfl (ce29) (nf29)) ?_
 refine wa_take (i := 2) (d := 18) 2 rfl (by kernel_rfl) (by kernel_rfl) (by kernel_rfl) rfl rfl rfl (fun M3 N3 w5 hle3 S6 => .inl (U3 rfl rfl uT29 rfl (S6.suf.boxc (i := 0) rfl rfl))) ?_
 refine Um (i := 3) 1 rfl (by kernel_rfl) rfl rfl (fun w7 S8 => ?_)
 refine (U7 (i := 0) (us := [_, _]) (l' := [_, _]) (H' := [_, _, _]) rfl rfl S8 rfl rfl rfl rfl sz24 rfl rfl rfl rfl ?_)
 intro w8 S9; clear S8
 refine U10.grow [_, _] (Hp.le_refl _) S9 ?_; clear S9
 change WA _ _ _ _ _ _ _ _ _ _ _ _ [_, _, _]
 refine Um (i := 4) 0 rfl (by kernel_rfl) rfl rfl (fun w10 S11 => ?_)
 refine (U7 (i := 1) (us := [_]) (l' := [_]) (H' := [_, _, _]) rfl rfl S11 rfl rfl rfl rfl sz29 rfl rfl rfl rfl ?_)
 intro w11 S12; clear S11
 refine U10.grow [_, _] (Hp.le_refl _) S12 ?_; clear S12
 change WA _ _ _ _ _ _ _ _ _ _ _ _ [_, _, _]
 refine Uu (by kernel_rfl) (fun w12 S13 => ?_)
 refine U1a [] trivial ?_
 exact hC _ ⟨rfl, rfl, S13.pick [0, 1] [_, _] (by decide) ⟨rfl, rfl, trivial⟩⟩
end InF
open InF (catchR catchP)
noncomputable def Z14o:=Tryz.f29.body.getD .skip
def Z14p := cL Z14o
def Z14q := cR Z14o
def Z14r := cL Z14q
def Z14s := cR Z14q
set_option maxRecDepth 10000 in
theorem Kinds_o {w : World} {M : Hp} {X : Fr}  (S : SH w M X []) : Co Tryz.prog 29 [] w M X (fun v N => ∃ gm, v = .map (some gm) ∧ N = [Rs.mp (Value.int .i64) vcF gm kindsL]) := by
 unfold Co
 refine Uo (b := Z14o) Tryz.func29 rfl Tryz.ntmps29 rfl (fun C hC => ?_)
 refine U14 [] trivial ?_
 refine U2 Z14p Z14q rfl rfl rfl ?_
 refine U1 rfl ?_
 refine Us (k := 0) (k' := 1) rfl rfl rfl (Ub rfl rfl (run_assign rfl rfl) ?_)
 refine U5 rfl ?_
 refine U1a [] trivial ?_
 refine U4 ?_
 refine U2 Z14r Z14s rfl rfl rfl ?_
 refine U1 rfl ?_
 refine Us (k := 0) (k' := 1) rfl rfl rfl (U3g Int (Option Nat) (Value.int .i64) vcF rfl rfl rfl S ?_)
 intro gm1 w1 S1; clear S
 refine Us (k := 1) (k' := 2) rfl rfl rfl (U1s (kc := Value.int .i64) (vc := vcF) (es := ([])) (k := 1) (e := (some 67)) (i := 0) (H' := [_]) (.inr rfl) rfl S1 rfl rfl rfl rfl uT59 mk3 rfl ?_)
 intro w2 S2; clear S1
 refine Us (k := 2) (k' := 3) rfl rfl rfl (U1s (kc := Value.int .i64) (vc := vcF) (es := (mp 1 (some 67) ([]))) (k := 2) (e := (some 68)) (i := 0) (H' := [_]) (.inr rfl) rfl S2 rfl rfl rfl rfl uT59 mk3 rfl ?_)
 intro w3 S3; clear S2
 refine Us (k := 3) (k' := 4) rfl rfl rfl (U1s (kc := Value.int .i64) (vc := vcF) (es := (mp 2 (some 68) (mp 1 (some 67) ([])))) (k := 3) (e := (some 69)) (i := 0) (H' := [_]) (.inr rfl) rfl S3 rfl rfl rfl rfl uT59 mk3 rfl ?_)
 intro w4 S4; clear S3
 refine Us (k := 4) (k' := 5) rfl rfl rfl (U1s (kc := Value.int .i64) (vc := vcF) (es := (mp 3 (some 69) (mp 2 (some 68) (mp 1 (some 67) ([]))))) (k := 4) (e := (some 70)) (i := 0) (H' := [_]) (.inr rfl) rfl S4 rfl rfl rfl rfl uT59 mk3 rfl ?_)
 intro w5 S5; clear S4
 refine Us (k := 5) (k' := 6) rfl rfl rfl (U1s (kc := Value.int .i64) (vc := vcF) (es := (mp 4 (some 70) (mp 3 (some 69) (mp 2 (some 68) (mp 1 (some 67) ([])))))) (k := 5) (e := (some 71)) (i := 0) (H' := [_]) (.inr rfl) rfl S5 rfl rfl rfl rfl uT59 mk3 rfl ?_)
 intro w6 S6; clear S5
 refine Us (k := 6) (k' := 7) rfl rfl rfl (Ub rfl rfl (run_move rfl rfl) ?_)
 refine Us (k := 7) (k' := 8) rfl rfl rfl (Ub rfl rfl (run_assign rfl rfl) ?_)
 refine U5 rfl ?_
 refine U1a [(0, _)] ⟨rfl, trivial⟩ ?_
 refine U4 ?_
 refine Uk hC [_] rfl rfl ⟨rfl, trivial⟩ ?_
 exact ⟨_, rfl, _, S6.pick [0] [_] (by decide) ⟨rfl, trivial⟩, ⟨_, rfl, rfl⟩⟩
end Go.Proofs.YthppkofceancjaaGreat
namespace Go.Proofs.YthppkofceancjaaGreat
open Go.ChangeShapes Go.WideShapes Go.ChangeAt Go.RowKit
theorem zr58 : (Tryz.prog.info? 58).map (·.zero) = some (some (.nilFunc)) := by kernel_rfl
namespace InF.G
noncomputable def Z14t:=Tryz.f8.body.getD .skip
def Z14u := cL Z14t
def Z14v := cR Z14t
def Z14w := cL Z14v
def Z14x := cR Z14v
def Z14y := cL Z14x
def Z14z := cR Z14x
def Z150 := cL Z14y
def Z151 := cR Z14y
def Z152 := cL Z151
def Z153 := cR Z151
def Z154 := cL Z152
def Z155 := cR Z152
def Z156 := cL Z14z
def Z157 := cR Z14z
def Z158 := cL Z157
def Z159 := cR Z157
def Z15a := cL Z158
def Z15b := cR Z158
def Z15c := cL Z15b
def Z15d := cL Z15c
def Z15e := cR Z15c
set_option maxHeartbeats 2000000 in
set_option maxRecDepth 10000 in
theorem DoN_t {w : World} {M : Hp} {X : Fr} (d : Dg) (m : Mv) {dA : Option Addr} {dc : Nat} (hk : kindF m.kd = none) (hdc : RdA cdCr (M.un X.h) dA dc d.crs) (S : SH w M X []) : Ct Tryz.prog 8 [.agg [.slice dA d.crs.length dc, .int .i64 d.loops].toArray, .agg [.int .i64 m.kd, .int .i64 m.at_, .int .i64 m.by_, .int .i64 m.ua, .bool m.ub, .int .i64 m.va, .bool m.vb, .bool m.ov].toArray] w M X (DoR (doP d m)) := by
 unfold Ct
 refine calls_marks (b := Z14t) Tryz.func8 rfl Tryz.ntmps8 rfl (fun C hCr hC => ?_)
 refine U14 [(0, _), (1, _)] ⟨rfl, rfl, trivial⟩ ?_
 refine U2 Z14u Z14v rfl rfl rfl ?_
 refine U1 rfl ?_
 refine Us (k := 0) (k' := 1) rfl rfl rfl (U18 (l := [_, _]) rfl rfl rfl rfl rfl S ?_)
 intro gb1 w1 S1; clear S
 refine Us (k := 1) (k' := 2) rfl rfl rfl (U18 (l := [_, _, _, _, _, _, _, _]) rfl rfl rfl rfl rfl S1 ?_)
 intro gb2 w2 S2; clear S1
 refine Us (k := 2) (k' := 3) rfl rfl rfl (Uh (l := [_, _]) rfl rfl rfl zr24 rfl S2 ?_)
 intro gb3 w3 S3; clear S2
 refine Us (k := 3) (k' := 4) rfl rfl rfl (Uh (l := [_]) rfl rfl rfl zr29 rfl S3 ?_)
 intro gb4 w4 S4; clear S3
 refine U5 rfl ?_
 refine U1a [(2, _), (3, _), (4, _), (5, _)] ⟨rfl, rfl, rfl, rfl, trivial⟩ ?_
 refine U4 ?_
 refine U2 Z14w Z14x rfl rfl rfl ?_
 refine U1 rfl ?_
 refine Us (k := 0) (k' := 1) rfl rfl rfl (Ub rfl rfl (U8 (us := [_, _]) rfl rfl uT24 rfl sz24 (S4.boxcs (i := 3) rfl ⟨rfl, rfl, trivial⟩)) ?_)
 refine Us (k := 1) (k' := 2) rfl rfl rfl (wo_cto rfl rfl rfl rfl rfl rfl rfl cf28 S4 (BOpen_p d (hdc.mono S4.Uw) S4.lend) ?_)
 intro vw5 w5 M1 Nw5 hle1 S5 hRw5; clear S4
 replace hdc := hdc.mono (Hp.Ua hle1 S5.mx)
 rcases hRw5 with ⟨hop, rfl, rfl⟩ | ⟨hop, ggb, ggs, vcr, iA, oA, fA, ic, oc, fc, fv, rfl, rfl, hsi, hso, hfa, hfd⟩
 ·have S6 : SH _ _ _ [_, _, _, _] := S5; clear S5
  refine Us (k := 2) (k' := 3) rfl rfl rfl (Ub rfl rfl (run_move rfl rfl) ?_)
  refine Us (k := 3) (k' := 4) rfl rfl rfl (Ub rfl rfl (Ul rfl rfl rfl) ?_)
  refine Us (k := 4) (k' := 5) rfl rfl rfl (Ub rfl rfl (Ul rfl rfl rfl) ?_)
  refine Us (k := 5) (k' := 6) rfl rfl rfl (Ub rfl rfl (run_assign rfl rfl) ?_)
  refine Us (k := 6) (k' := 7) rfl rfl rfl (Ub rfl rfl (run_assign rfl rfl) ?_)
  refine U5 rfl ?_
  refine U1a [(3, _), (4, _), (5, _), (6, _), (7, _)] ⟨rfl, rfl, rfl, rfl, rfl, trivial⟩ ?_
  refine U4 ?_
  refine U2 Z14y Z14z rfl rfl rfl ?_
  refine U2 Z150 Z151 rfl rfl rfl ?_
  refine U1 rfl ?_
  refine Us (k := 0) (k' := 1) rfl rfl rfl (Ub rfl rfl (run_move rfl rfl) ?_)
  refine Us (k := 1) (k' := 2) rfl rfl rfl (Ub rfl rfl (U1j rfl rfl) ?_)
  refine U5 rfl ?_
  refine U1a [(3, _), (4, _), (5, _), (6, _), (15, _)] ⟨rfl, rfl, rfl, rfl, rfl, trivial⟩ ?_
  refine U4 ?_
  refine U1h Z152 rfl rfl rfl ?_
  refine U2 Z154 Z155 rfl rfl rfl ?_
  refine U1 rfl ?_
  refine Us (k := 0) (k' := 1) rfl rfl rfl (Ub rfl rfl (run_build (l := [_, _]) rfl rfl st24 rfl rfl) ?_)
  refine Us (k := 1) (k' := 2) rfl rfl rfl (U7 (i := 1) (us := [_, _]) (l' := [_, _]) (H' := [_, _, _, _]) rfl rfl S6 rfl rfl rfl rfl sz24 rfl rfl rfl rfl ?_)
  intro w6 S7; clear S6
  refine Us (k := 2) (k' := 3) rfl rfl rfl (U7 (i := 0) (us := [_]) (l' := [_]) (H' := [_, _, _, _]) rfl rfl S7 rfl rfl rfl rfl sz29 rfl rfl rfl rfl ?_)
  intro w7 S8; clear S7
  refine U5 rfl ?_
  refine U1a [(4, _), (5, _)] ⟨rfl, rfl, trivial⟩ ?_
  refine U4 ?_
  refine Uk hC [_, _] rfl rfl ⟨⟨_, rfl, Up (us := [_, _]) uT24 rfl sz24 (S8.boxcs (i := 1) rfl ⟨rfl, rfl, trivial⟩)⟩, ⟨_, rfl, loadVar1 uT29 rfl (S8.boxc (i := 0) rfl rfl)⟩, trivial⟩ ?_
  refine ⟨_, rfl, _, hle1, (S8.pick [] [] (by decide) trivial), ?_⟩
  rw [show doP d m = (⟨[], 0⟩, 7) from by unfold doP; rw [if_pos hop]]
  exact ⟨none, 0, rfl, RdA.nil_⟩
 ·have S9 : SH _ _ _ [_, _, _, _, _, _, _] := S5; clear S5
  obtain ⟨hn, hab, hlo⟩ := opB_ok hop
  refine Us (k := 2) (k' := 3) rfl rfl rfl (Ub rfl rfl (run_move rfl rfl) ?_)
  refine Us (k := 3) (k' := 4) rfl rfl rfl (Ub rfl rfl (Ul rfl rfl rfl) ?_)
  refine Us (k := 4) (k' := 5) rfl rfl rfl (Ub rfl rfl (Ul rfl rfl rfl) ?_)
  refine Us (k := 5) (k' := 6) rfl rfl rfl (Ub rfl rfl (run_assign rfl rfl) ?_)
  refine Us (k := 6) (k' := 7) rfl rfl rfl (Ub rfl rfl (run_assign rfl rfl) ?_)
  refine U5 rfl ?_
  refine U1a [(3, _), (4, _), (5, _), (6, _), (7, _)] ⟨rfl, rfl, rfl, rfl, rfl, trivial⟩ ?_
  refine U4 ?_
  refine U2 Z14y Z14z rfl rfl rfl ?_
  refine U2 Z150 Z151 rfl rfl rfl ?_
  refine U1 rfl ?_
  refine Us (k := 0) (k' := 1) rfl rfl rfl (Ub rfl rfl (run_move rfl rfl) ?_)
  refine Us (k := 1) (k' := 2) rfl rfl rfl (Ub rfl rfl (U1j rfl rfl) ?_)
  refine U5 rfl ?_
  refine U1a [(3, _), (4, _), (5, _), (6, _), (15, _)] ⟨rfl, rfl, rfl, rfl, rfl, trivial⟩ ?_
  refine U4 ?_
  refine U2c Z153 rfl rfl rfl ?_
  refine Uf rfl ?_
  refine U1a [(3, _), (4, _), (5, _), (6, _)] ⟨rfl, rfl, rfl, rfl, trivial⟩ ?_
  refine U4 ?_
  refine U2 Z156 Z157 rfl rfl rfl ?_
  refine Ux rfl (by kernel_rfl) S9 5 rfl ?_
  clear S9
  refine wa_takeP (i := 1) (d := 18) 4 rfl (by kernel_rfl) (by kernel_rfl) (by kernel_rfl) rfl rfl rfl (fun w9 => U0 rfl rfl uT28 rfl (ce3) (nf3)) ?_
  refine wa_take (i := 2) (d := 19) 3 rfl (by kernel_rfl) (by kernel_rfl) (by kernel_rfl) rfl rfl rfl (fun M5 N4 w11 hle5 S13 => .inl (U3 rfl rfl uT3 rfl (S13.suf.boxc (i := 5) rfl rfl))) ?_
  refine Um (i := 0) 2 rfl (by kernel_rfl) rfl rfl (fun w13 S15 => ?_)
  refine (wo_co rfl rfl rfl rfl rfl rfl rfl cf29 S15 (Kinds_o   S15.lend) ?_)
  intro vw14 w14 Nw14 S16 hRw14; clear S15
  obtain ⟨gmk, rfl, rfl⟩ := hRw14
  have S17 : SH _ _ _ [_, _, _, _, _, _, _, _] := S16; clear S16
  refine U10.grow [_] (Hp.le_refl _) S17 ?_; clear S17
  change WA _ _ _ _ _ _ _ _ _ _ _ _ [_, _, _, _, _, _, _, _]
  refine wa_base ?_
  refine wa_take (i := 3) (d := 20) 1 rfl (by kernel_rfl) (by kernel_rfl) (by kernel_rfl) rfl rfl rfl (fun M7 N6 w15 hle7 S18 => .inl (U3h (kc := (Value.int .i64)) (vc := vcF) (es := kindsL) (k := m.kd) (zv := (none : Option Nat)) (i := 0) rfl rfl rfl uT59 mk3 zr58 S18.suf rfl)) ?_
  refine wa_takeP (i := 4) (d := 8) 0 rfl (by kernel_rfl) (by kernel_rfl) (by kernel_rfl) rfl rfl rfl (fun w16 => run_assign rfl rfl) ?_
  refine Uu (by kernel_rfl) (fun w17 S20 => ?_)
  refine U1a [(3, _), (4, _), (5, _), (6, _), (8, _)] ⟨rfl, rfl, rfl, rfl, rfl, trivial⟩ ?_
  refine U4 ?_
  refine U2 Z158 Z159 rfl rfl rfl ?_
  refine U2 Z15a Z15b rfl rfl rfl ?_
  refine ws_eq 8 (.nilFunc) rfl (by show vcF (kindF m.kd) = _; rw [hk]; rfl) ?_
  refine U1 rfl ?_
  refine Us (k := 0) (k' := 1) rfl rfl rfl (Ub rfl rfl (run_move rfl rfl) ?_)
  refine Us (k := 1) (k' := 2) rfl rfl rfl (Ub rfl rfl (run_eqFN1 rfl rfl rfl uT58) ?_)
  refine U5 rfl ?_
  refine U1a [(3, _), (4, _), (5, _), (6, _), (8, _), (22, _)] ⟨rfl, rfl, rfl, rfl, rfl, rfl, trivial⟩ ?_
  refine U4 ?_
  refine U1h Z15c rfl rfl rfl ?_
  refine U2 Z15d Z15e rfl rfl rfl ?_
  refine U1 rfl ?_
  refine Us (k := 0) (k' := 1) rfl rfl rfl (Ub rfl rfl (run_build (l := [_, _]) rfl rfl st24 rfl rfl) ?_)
  refine Us (k := 1) (k' := 2) rfl rfl rfl (U7 (i := 5) (us := [_, _]) (l' := [_, _]) (H' := [_, _, _, _, _, _, _, _]) rfl rfl S20 rfl rfl rfl rfl sz24 rfl rfl rfl rfl ?_)
  intro w18 S21; clear S20
  refine Us (k := 2) (k' := 3) rfl rfl rfl (U7 (i := 4) (us := [_]) (l' := [_]) (H' := [_, _, _, _, _, _, _, _]) rfl rfl S21 rfl rfl rfl rfl sz29 rfl rfl rfl rfl ?_)
  intro w19 S22; clear S21
  refine U5 rfl ?_
  refine U1a [(4, _), (5, _)] ⟨rfl, rfl, trivial⟩ ?_
  refine U4 ?_
  refine Uk hC [_, _] rfl rfl ⟨⟨_, rfl, Up (us := [_, _]) uT24 rfl sz24 (S22.boxcs (i := 5) rfl ⟨rfl, rfl, trivial⟩)⟩, ⟨_, rfl, loadVar1 uT29 rfl (S22.boxc (i := 4) rfl rfl)⟩, trivial⟩ ?_
  refine ⟨_, rfl, _, hle1, (S22.pick [] [] (by decide) trivial), ?_⟩
  rw [show doP d m = (⟨[], 0⟩, 6) from by unfold doP; rw [if_neg (by rw [hop]; decide), if_pos hk]]
  exact ⟨none, 0, rfl, RdA.nil_⟩
noncomputable def Z15f:=Tryz.f8.body.getD .skip
def Z15g := cL Z15f
def Z15h := cR Z15f
def Z15i := cL Z15h
def Z15j := cR Z15h
def Z15k := cL Z15j
def Z15l := cR Z15j
def Z15m := cL Z15k
def Z15n := cR Z15k
def Z15o := cL Z15n
def Z15p := cR Z15n
def Z15q := cL Z15o
def Z15r := cR Z15o
def Z15s := cL Z15l
def Z15t := cR Z15l
def Z15u := cL Z15t
def Z15v := cR Z15t
def Z15w := cL Z15u
def Z15x := cR Z15u
def Z15y := cR Z15x
def Z15z := cL Z15v
def Z160 := cR Z15v
def Z161 := cL Z160
def Z162 := cR Z160
def Z163 := cL Z162
def Z164 := cR Z162
set_option maxHeartbeats 2000000 in
set_option maxRecDepth 10000 in
theorem DoS_t {w : World} {M : Hp} {X : Fr} (d : Dg) (m : Mv) {dA : Option Addr} {dc : Nat} {f : Nat} (hk : kindF m.kd = some f) (hdc : RdA cdCr (M.un X.h) dA dc d.crs) (S : SH w M X []) : Ct Tryz.prog 8 [.agg [.slice dA d.crs.length dc, .int .i64 d.loops].toArray, .agg [.int .i64 m.kd, .int .i64 m.at_, .int .i64 m.by_, .int .i64 m.ua, .bool m.ub, .int .i64 m.va, .bool m.vb, .bool m.ov].toArray] w M X (DoR (doP d m)) := by
 unfold Ct
 refine calls_marks (b := Z15f) Tryz.func8 rfl Tryz.ntmps8 rfl (fun C hCr hC => ?_)
 refine U14 [(0, _), (1, _)] ⟨rfl, rfl, trivial⟩ ?_
 refine U2 Z15g Z15h rfl rfl rfl ?_
 refine U1 rfl ?_
 refine Us (k := 0) (k' := 1) rfl rfl rfl (U18 (l := [_, _]) rfl rfl rfl rfl rfl S ?_)
 intro gb1 w1 S1; clear S
 refine Us (k := 1) (k' := 2) rfl rfl rfl (U18 (l := [_, _, _, _, _, _, _, _]) rfl rfl rfl rfl rfl S1 ?_)
 intro gb2 w2 S2; clear S1
 refine Us (k := 2) (k' := 3) rfl rfl rfl (Uh (l := [_, _]) rfl rfl rfl zr24 rfl S2 ?_)
 intro gb3 w3 S3; clear S2
 refine Us (k := 3) (k' := 4) rfl rfl rfl (Uh (l := [_]) rfl rfl rfl zr29 rfl S3 ?_)
 intro gb4 w4 S4; clear S3
 refine U5 rfl ?_
 refine U1a [(2, _), (3, _), (4, _), (5, _)] ⟨rfl, rfl, rfl, rfl, trivial⟩ ?_
 refine U4 ?_
 refine U2 Z15i Z15j rfl rfl rfl ?_
 refine U1 rfl ?_
 refine Us (k := 0) (k' := 1) rfl rfl rfl (Ub rfl rfl (U8 (us := [_, _]) rfl rfl uT24 rfl sz24 (S4.boxcs (i := 3) rfl ⟨rfl, rfl, trivial⟩)) ?_)
 refine Us (k := 1) (k' := 2) rfl rfl rfl (wo_cto rfl rfl rfl rfl rfl rfl rfl cf28 S4 (BOpen_p d (hdc.mono S4.Uw) S4.lend) ?_)
 intro vw5 w5 M1 Nw5 hle1 S5 hRw5; clear S4
 replace hdc := hdc.mono (Hp.Ua hle1 S5.mx)
 rcases hRw5 with ⟨hop, rfl, rfl⟩ | ⟨hop, ggb, ggs, vcr, iA, oA, fA, ic, oc, fc, fv, rfl, rfl, hsi, hso, hfa, hfd⟩
 ·have S6 : SH _ _ _ [_, _, _, _] := S5; clear S5
  refine Us (k := 2) (k' := 3) rfl rfl rfl (Ub rfl rfl (run_move rfl rfl) ?_)
  refine Us (k := 3) (k' := 4) rfl rfl rfl (Ub rfl rfl (Ul rfl rfl rfl) ?_)
  refine Us (k := 4) (k' := 5) rfl rfl rfl (Ub rfl rfl (Ul rfl rfl rfl) ?_)
  refine Us (k := 5) (k' := 6) rfl rfl rfl (Ub rfl rfl (run_assign rfl rfl) ?_)
  refine Us (k := 6) (k' := 7) rfl rfl rfl (Ub rfl rfl (run_assign rfl rfl) ?_)
  refine U5 rfl ?_
  refine U1a [(3, _), (4, _), (5, _), (6, _), (7, _)] ⟨rfl, rfl, rfl, rfl, rfl, trivial⟩ ?_
  refine U4 ?_
  refine U2 Z15k Z15l rfl rfl rfl ?_
  refine U2 Z15m Z15n rfl rfl rfl ?_
  refine U1 rfl ?_
  refine Us (k := 0) (k' := 1) rfl rfl rfl (Ub rfl rfl (run_move rfl rfl) ?_)
  refine Us (k := 1) (k' := 2) rfl rfl rfl (Ub rfl rfl (U1j rfl rfl) ?_)
  refine U5 rfl ?_
  refine U1a [(3, _), (4, _), (5, _), (6, _), (15, _)] ⟨rfl, rfl, rfl, rfl, rfl, trivial⟩ ?_
  refine U4 ?_
  refine U1h Z15o rfl rfl rfl ?_
  refine U2 Z15q Z15r rfl rfl rfl ?_
  refine U1 rfl ?_
  refine Us (k := 0) (k' := 1) rfl rfl rfl (Ub rfl rfl (run_build (l := [_, _]) rfl rfl st24 rfl rfl) ?_)
  refine Us (k := 1) (k' := 2) rfl rfl rfl (U7 (i := 1) (us := [_, _]) (l' := [_, _]) (H' := [_, _, _, _]) rfl rfl S6 rfl rfl rfl rfl sz24 rfl rfl rfl rfl ?_)
  intro w6 S7; clear S6
  refine Us (k := 2) (k' := 3) rfl rfl rfl (U7 (i := 0) (us := [_]) (l' := [_]) (H' := [_, _, _, _]) rfl rfl S7 rfl rfl rfl rfl sz29 rfl rfl rfl rfl ?_)
  intro w7 S8; clear S7
  refine U5 rfl ?_
  refine U1a [(4, _), (5, _)] ⟨rfl, rfl, trivial⟩ ?_
  refine U4 ?_
  refine Uk hC [_, _] rfl rfl ⟨⟨_, rfl, Up (us := [_, _]) uT24 rfl sz24 (S8.boxcs (i := 1) rfl ⟨rfl, rfl, trivial⟩)⟩, ⟨_, rfl, loadVar1 uT29 rfl (S8.boxc (i := 0) rfl rfl)⟩, trivial⟩ ?_
  refine ⟨_, rfl, _, hle1, (S8.pick [] [] (by decide) trivial), ?_⟩
  rw [show doP d m = (⟨[], 0⟩, 7) from by unfold doP; rw [if_pos hop]]
  exact ⟨none, 0, rfl, RdA.nil_⟩
 ·have S9 : SH _ _ _ [_, _, _, _, _, _, _] := S5; clear S5
  obtain ⟨hn, hab, hlo⟩ := opB_ok hop
  refine Us (k := 2) (k' := 3) rfl rfl rfl (Ub rfl rfl (run_move rfl rfl) ?_)
  refine Us (k := 3) (k' := 4) rfl rfl rfl (Ub rfl rfl (Ul rfl rfl rfl) ?_)
  refine Us (k := 4) (k' := 5) rfl rfl rfl (Ub rfl rfl (Ul rfl rfl rfl) ?_)
  refine Us (k := 5) (k' := 6) rfl rfl rfl (Ub rfl rfl (run_assign rfl rfl) ?_)
  refine Us (k := 6) (k' := 7) rfl rfl rfl (Ub rfl rfl (run_assign rfl rfl) ?_)
  refine U5 rfl ?_
  refine U1a [(3, _), (4, _), (5, _), (6, _), (7, _)] ⟨rfl, rfl, rfl, rfl, rfl, trivial⟩ ?_
  refine U4 ?_
  refine U2 Z15k Z15l rfl rfl rfl ?_
  refine U2 Z15m Z15n rfl rfl rfl ?_
  refine U1 rfl ?_
  refine Us (k := 0) (k' := 1) rfl rfl rfl (Ub rfl rfl (run_move rfl rfl) ?_)
  refine Us (k := 1) (k' := 2) rfl rfl rfl (Ub rfl rfl (U1j rfl rfl) ?_)
  refine U5 rfl ?_
  refine U1a [(3, _), (4, _), (5, _), (6, _), (15, _)] ⟨rfl, rfl, rfl, rfl, rfl, trivial⟩ ?_
  refine U4 ?_
  refine U2c Z15p rfl rfl rfl ?_
  refine Uf rfl ?_
  refine U1a [(3, _), (4, _), (5, _), (6, _)] ⟨rfl, rfl, rfl, rfl, trivial⟩ ?_
  refine U4 ?_
  refine U2 Z15s Z15t rfl rfl rfl ?_
  refine Ux rfl (by kernel_rfl) S9 5 rfl ?_
  clear S9
  refine wa_takeP (i := 1) (d := 18) 4 rfl (by kernel_rfl) (by kernel_rfl) (by kernel_rfl) rfl rfl rfl (fun w9 => U0 rfl rfl uT28 rfl (ce3) (nf3)) ?_
  refine wa_take (i := 2) (d := 19) 3 rfl (by kernel_rfl) (by kernel_rfl) (by kernel_rfl) rfl rfl rfl (fun M5 N4 w11 hle5 S13 => .inl (U3 rfl rfl uT3 rfl (S13.suf.boxc (i := 5) rfl rfl))) ?_
  refine Um (i := 0) 2 rfl (by kernel_rfl) rfl rfl (fun w13 S15 => ?_)
  refine (wo_co rfl rfl rfl rfl rfl rfl rfl cf29 S15 (Kinds_o   S15.lend) ?_)
  intro vw14 w14 Nw14 S16 hRw14; clear S15
  obtain ⟨gmk, rfl, rfl⟩ := hRw14
  have S17 : SH _ _ _ [_, _, _, _, _, _, _, _] := S16; clear S16
  refine U10.grow [_] (Hp.le_refl _) S17 ?_; clear S17
  change WA _ _ _ _ _ _ _ _ _ _ _ _ [_, _, _, _, _, _, _, _]
  refine wa_base ?_
  refine wa_take (i := 3) (d := 20) 1 rfl (by kernel_rfl) (by kernel_rfl) (by kernel_rfl) rfl rfl rfl (fun M7 N6 w15 hle7 S18 => .inl (U3h (kc := (Value.int .i64)) (vc := vcF) (es := kindsL) (k := m.kd) (zv := (none : Option Nat)) (i := 0) rfl rfl rfl uT59 mk3 zr58 S18.suf rfl)) ?_
  refine wa_takeP (i := 4) (d := 8) 0 rfl (by kernel_rfl) (by kernel_rfl) (by kernel_rfl) rfl rfl rfl (fun w16 => run_assign rfl rfl) ?_
  refine Uu (by kernel_rfl) (fun w17 S20 => ?_)
  refine U1a [(3, _), (4, _), (5, _), (6, _), (8, _)] ⟨rfl, rfl, rfl, rfl, rfl, trivial⟩ ?_
  refine U4 ?_
  refine U2 Z15u Z15v rfl rfl rfl ?_
  refine U2 Z15w Z15x rfl rfl rfl ?_
  refine ws_eq 8 (.func (.func f) #[] #[]) rfl (by show vcF (kindF m.kd) = _; rw [hk]; rfl) ?_
  refine U1 rfl ?_
  refine Us (k := 0) (k' := 1) rfl rfl rfl (Ub rfl rfl (run_move rfl rfl) ?_)
  refine Us (k := 1) (k' := 2) rfl rfl rfl (Ub rfl rfl (run_eqFN0 rfl rfl rfl uT58) ?_)
  refine U5 rfl ?_
  refine U1a [(3, _), (4, _), (5, _), (6, _), (8, _), (22, _)] ⟨rfl, rfl, rfl, rfl, rfl, rfl, trivial⟩ ?_
  refine U4 ?_
  refine U2c Z15y rfl rfl rfl ?_
  refine Uf rfl ?_
  refine U1a [(3, _), (4, _), (5, _), (6, _), (8, _)] ⟨rfl, rfl, rfl, rfl, rfl, trivial⟩ ?_
  refine U4 ?_
  refine U2 Z15z Z160 rfl rfl rfl ?_
  refine U1 rfl ?_
  refine Us (k := 0) (k' := 1) rfl rfl rfl (Ub rfl rfl (U2l (vs := [_, _]) rfl rfl rfl rfl) ?_)
  refine wl_deferD (k := 1) (k' := 2) (cap := [_, _]) rfl rfl rfl rfl rfl rfl rfl rfl hCr ?_
  refine InD.U5 rfl ?_
  refine InD.U1a [(3, _), (4, _), (5, _), (6, _), (8, _)] ⟨rfl, rfl, rfl, rfl, rfl, trivial⟩ ?_
  refine InD.U4 ?_
  refine InD.U2 Z161 Z162 rfl rfl rfl ?_
  refine InD.U1 rfl ?_
  refine InD.Us (k := 0) (k' := 1) rfl rfl rfl (Ub rfl rfl (run_move rfl rfl) ?_)
  refine InD.Us (k := 1) (k' := 2) rfl rfl rfl (Ub rfl rfl (run_move rfl rfl) ?_)
  refine InD.Us (k := 2) (k' := 3) rfl rfl rfl (Ub rfl rfl (U8 (us := [_, _, _, _, _, _, _, _]) rfl rfl uT28 rfl sz28 (S20.boxcs (i := 6) rfl ⟨rfl, rfl, rfl, rfl, rfl, rfl, rfl, rfl, trivial⟩)) ?_)
  have S21 := S20.pick [1, 2, 3, 0, 4, 5, 6, 7] [_, _, _, _, _, _, _, _] (by decide) ⟨rfl, rfl, rfl, rfl, rfl, rfl, rfl, rfl, trivial⟩; clear S20
  have S22 : SH _ _ _ (Rs.bun [_, _, _] :: [_, _, _, _, _]) := SH.bunC (A := [_, _, _]) (B := [_, _, _, _, _]) S21; clear S21
  have S23 : SH _ _ _ [_, _, _, _, _, _] := S22.less (i := 0) rfl
  clear S23
  have hc28 := Method_m m hk d hsi hso hfa hfd hn hab hlo (S22.lend1 (i := 0) rfl)
  refine InD.wl_call2 (k := 3) (k' := 4) rfl rfl rfl rfl rfl rfl rfl rfl rfl rfl (kindF_en hk) (Cm.two S22 rfl hc28) ?_ ?_
  ·rintro _ w28 ⟨he28, M28, _, hle28, S28, rfl, A28, c28, rfl, h28⟩
   clear hc28 S22
   replace hdc := hdc.mono (Hp.Ua hle28 S28.mx)
   replace hsi := hsi.mono hle28
   replace hso := hso.mono hle28
   replace hfa := hfa.mono hle28
   replace hfd := hfd.mono hle28
   replace S28 : SH _ _ _ (Rs.bun [_, _] :: [_, _, _, _, _]) := S28
   have S29 : SH _ _ _ [_, _, _, _, _, _, _] := SH.U2y (A := [_, _]) (B := [_, _, _, _, _]) S28; clear S28
   refine InD.U5 rfl ?_
   refine InD.U1a [(4, _), (5, _), (6, _)] ⟨rfl, rfl, rfl, trivial⟩ ?_
   refine InD.U4 ?_
   refine InD.U2 Z163 Z164 rfl rfl rfl ?_
   refine InD.U1 rfl ?_
   refine InD.Us (k := 0) (k' := 1) rfl rfl rfl (Ub rfl rfl (run_move rfl rfl) ?_)
   refine InD.Us (k := 1) (k' := 2) rfl rfl rfl (Ub rfl rfl (U9 rfl rfl) ?_)
   refine InD.Us (k := 2) (k' := 3) rfl rfl rfl (Ub rfl rfl (U0 rfl rfl uT67 rfl (ce64) (nf64)) ?_)
   refine InD.Us (k := 3) (k' := 4) rfl rfl rfl (Ub rfl rfl (U3 rfl rfl uT64 rfl (S29.boxc (i := 0) rfl rfl)) ?_)
   refine InD.Us (k := 4) (k' := 5) rfl rfl rfl (Ub rfl rfl (U9 rfl rfl) ?_)
   refine InD.Us (k := 5) (k' := 6) rfl rfl rfl (Ub rfl rfl (U0 rfl rfl uT70 rfl (ce24) (nf24)) ?_)
   refine InD.Us (k := 6) (k' := 7) rfl rfl rfl (Ub rfl rfl (U8 (us := [_, _]) rfl rfl uT24 rfl sz24 (S29.boxcs (i := 1) rfl ⟨rfl, rfl, trivial⟩)) ?_)
   refine InD.Us (k := 7) (k' := 8) rfl rfl rfl (U7 (i := 4) (us := [_, _]) (l' := [_, _]) (H' := [_, _, _, _, _, _, _]) rfl rfl S29 rfl rfl rfl rfl sz24 rfl rfl rfl rfl ?_)
   intro w18 S24; clear S29
   refine InD.Us (k := 8) (k' := 9) rfl rfl rfl (U7 (i := 3) (us := [_]) (l' := [_]) (H' := [_, _, _, _, _, _, _]) rfl rfl S24 rfl rfl rfl rfl sz29 rfl rfl rfl rfl ?_)
   intro w19 S25; clear S24
   refine InD.U5 rfl ?_
   refine InD.U1a [(4, _), (5, _)] ⟨rfl, rfl, trivial⟩ ?_
   refine InD.U4 ?_
   refine InD.ws_retQ rfl (fun a28 ha28 => ?_)
   rw [hC]
   show LeavesInM Fence.wide 0 Tryz.prog Tryz.f8 a28.tmps _ a28.defers .returning _
   rw [ha28.df]
   refine leave_one (fun h => by cases h) cf30 (CallsDIn.mono catchR ?_)
   rintro e9 u9 w9 ⟨rfl, rfl, rfl⟩
   refine ⟨_, rfl, rfl, tup [_, _], U2v ha28.toEnv rfl ⟨⟨_, rfl, Up (us := [_, _]) uT24 rfl sz24 (S25.boxcs (i := 4) rfl ⟨rfl, rfl, trivial⟩)⟩, ⟨_, rfl, loadVar1 uT29 rfl (S25.boxc (i := 3) rfl rfl)⟩, trivial⟩, _, rfl, _, hle1.trans hle28, S25.pick [] [] (by decide) trivial, ?_⟩
   rw [show doP d m = (mvD d m, 0) from by unfold doP; rw [if_neg (by rw [hop]; decide), if_neg (by rw [hk]; exact Option.some_ne_none _), if_pos he28]]
   exact ⟨_, _, rfl, h28⟩
  ·rintro _ w28 ⟨he28, rfl, M28, hle28, S28⟩ a28 ha28
   clear hc28 S22
   replace S28 : SH _ _ _ [_, _, _, _, _, _] := S28
   rw [hC]
   show LeavesInM Fence.wide 0 Tryz.prog Tryz.f8 a28.tmps _ a28.defers (.panicking _) w28
   rw [ha28.df]
   refine leave_one (fun h => by cases h) cf30 (CallsDIn.mono (catchP (S28.pick [3, 2] [_, _] (by decide) ⟨rfl, rfl, trivial⟩)) ?_)
   rintro e9 u9 w9 ⟨rfl, hs9, S9⟩
   refine ⟨_, rfl, hs9, tup [_, _], U2v ha28.toEnv rfl ⟨⟨_, rfl, Up (us := [_, _]) uT24 rfl sz24 (S9.boxcs (i := 0) rfl ⟨rfl, rfl, trivial⟩)⟩, ⟨_, rfl, loadVar1 uT29 rfl (S9.boxc (i := 1) rfl rfl)⟩, trivial⟩, _, rfl, M28, hle1.trans hle28, S9.pick [] [] (by decide) trivial, ?_⟩
   rw [show doP d m = (⟨[], 0⟩, mvE d m) from by unfold doP; rw [if_neg (by rw [hop]; decide), if_neg (by rw [hk]; exact Option.some_ne_none _), if_neg he28]]
   exact ⟨none, 0, rfl, RdA.nil_⟩
end InF.G
theorem Do_t {w : World} {M : Hp} {X : Fr} (d : Dg) (m : Mv) {dA : Option Addr} {dc : Nat} (hdc : RdA cdCr (M.un X.h) dA dc d.crs) (S : SH w M X []) : Ct Tryz.prog 8 [.agg [.slice dA d.crs.length dc, .int .i64 d.loops].toArray, .agg [.int .i64 m.kd, .int .i64 m.at_, .int .i64 m.by_, .int .i64 m.ua, .bool m.ub, .int .i64 m.va, .bool m.vb, .bool m.ov].toArray] w M X (DoR (doP d m)) := by
 cases hk : kindF m.kd with
 | none => exact InF.G.DoN_t d m hk hdc S
 | some f => exact InF.G.DoS_t d m hk hdc S
end Go.Proofs.YthppkofceancjaaGreat
