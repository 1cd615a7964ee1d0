/- Part 5 of the proof of the law MovesDo: the walks through its functions and the plain laws that they need. -/
import Derived.Test.YthppkofceancjaaGreatMvZ4
import Derived.Test.YthppkofceancjaaGreatProg
set_option linter.unusedSimpArgs false
set_option linter.unusedVariables false
noncomputable section
namespace Go.Proofs.YthppkofceancjaaGreat
open Go.ChangeShapes Go.WideShapes Go.ChangeAt Go.RowKit
theorem ringF_pre (nx : Nat → Nat) (seen : List Bool) (x : Nat) (acc : List Int) : ∃ t, (U2z nx seen x acc).2 = acc ++ t := by
 induction hk : free seen using Nat.strongRecOn generalizing seen x acc with
 | _ k ih =>
  by_cases h : x < seen.length ∧ ga seen x = false
  ·rw [U3u h.1 h.2]
   have := U2s h.1 h.2
   obtain ⟨t, ht⟩ := ih (free (seen.set x true)) (by omega) (seen.set x true) (nx x) (acc ++ [(x : Int)]) rfl
   exact ⟨(x : Int) :: t, by rw [ht]; simp⟩
  ·refine ⟨[], ?_⟩
   rw [U2z]
   simp [h]
theorem facesN_head (d : Dg) (k : Nat) (hk : k ≤ 4 * d.crs.length) : ∀ r ∈ (U1w d k).2, ∃ (c : Nat) (t : List Int), r = (c : Int) :: t ∧ 2 ≤ c ∧ c < 4 * d.crs.length + 2 := by
 induction k with
 | zero => intro r hr; simp [U1w] at hr
 | succ k ih =>
  by_cases hg : ga (U1w d k).1 (k + 2) = true
  ·rw [U2n rfl hg]; exact ih (by omega)
  ·rw [U2o rfl (by simpa using hg) rfl]
   intro r hr
   rcases List.mem_append.1 hr with hr | hr
   ·exact ih (by omega) r hr
   ·rw [List.mem_singleton] at hr
    subst hr
    have hl := U45 d k
    rw [U3u (by omega) (by simpa using hg)]
    obtain ⟨t, ht⟩ := ringF_pre (nxC d) ((U1w d k).1.set (k + 2) true) (nxC d (k + 2)) ([] ++ [((k + 2 : Nat) : Int)])
    exact ⟨k + 2, t, by rw [ht]; rfl, by omega, by omega⟩
def hd0 (d : Dg) (k : Nat) : Da := ga (ga (U6 d) k) 0
theorem hd0_ok {d : Dg} {k : Nat} (hk : k < (U6 d).length) : 0 < (ga (U6 d) k).length ∧ okD d (hd0 d k) := by
 have hm : ga (U6 d) k ∈ U6 d := by rw [U36 hk]; exact List.getElem_mem hk
 unfold U6 facesD at hm
 rw [List.mem_map] at hm
 obtain ⟨r, hr, e⟩ := hm
 obtain ⟨c, t, rfl, h1, h2⟩ := facesN_head d _ (Nat.le_refl _) r hr
 have e' : ga (U6 d) k = dA c :: dasL t := e.symm
 refine ⟨by rw [e']; simp, ?_⟩
 unfold hd0
 rw [e']
 exact dA_ok ⟨h1, h2⟩
def fcC (d : Dg) (k : Nat) : Nat := (Ud d (hd0 d k).a (hd0 d k).b).1
theorem fcC_lt {d : Dg} (h : U1b d = true) {k : Nat} (hk : k < (U6 d).length) : fcC d k < d.crs.length := (endD h (hd0_ok hk).2 (hd0 d k).b).1
def negW (ws : List Int) (p : Int) : Nat → Int
 | 0 => 0
 | k + 1 => if ga ws k = p then negW ws p k - 1 else negW ws p k
def facW (d : Dg) (ws : List Int) (p : Int) (m : Int) : Nat → Int
 | 0 => m
 | k + 1 => if ga ws (fcC d k) = p then facW d ws p m k + 1 else facW d ws p m k
def rootOk (d : Dg) (p : Nat) : Bool := decide (ga (whoL d) p ≠ (p : Int)) || decide (facW d (whoL d) p (negW (whoL d) p d.crs.length) (U6 d).length = 2)
def planIs (d : Dg) : Bool := (List.range d.crs.length).all (rootOk d)
theorem planIs_t {d : Dg} (h : ∀ p, p < d.crs.length → rootOk d p = true) : planIs d = true := by
 unfold planIs
 rw [List.all_eq_true]
 intro p hp
 exact h p (List.mem_range.1 hp)
theorem planIs_f {d : Dg} {p : Nat} (hp : p < d.crs.length) (h : rootOk d p = false) : planIs d = false := by
 unfold planIs
 rw [List.all_eq_false]
 exact ⟨p, List.mem_range.2 hp, by rw [h]; decide⟩
theorem negW_bd (ws : List Int) (p : Int) (k : Nat) : -(k : Int) ≤ negW ws p k ∧ negW ws p k ≤ 0 := by
 induction k with
 | zero => simp [negW]
 | succ k ih => rw [negW]; split <;> omega
theorem facW_bd (d : Dg) (ws : List Int) (p m : Int) (k : Nat) : m ≤ facW d ws p m k ∧ facW d ws p m k ≤ m + k := by
 induction k with
 | zero => simp [facW]
 | succ k ih => rw [facW]; split <;> omega
theorem facesL_many (d : Dg) : (U6 d).length ≤ 4 * d.crs.length := by
 unfold U6 facesD
 rw [List.length_map]
 exact facesN_many d _
noncomputable def Z9x:=Tryz.f32.body.getD .skip
def Z9y := cL Z9x
def Z9z := cR Z9x
def Za0 := cL Z9z
def Za1 := cR Z9z
def Za2 := cL Za1
def Za3 := cR Za1
def Za4 := cL Za3
def Za5 := cR Za3
def Za6 := cL Za4
def Za7 := cR Za4
def Za8 := cL Za7
def Za9 := cL Za8
def Zaa := cL Za9
def Zab := cR Za9
def Zac := cL Zaa
def Zad := cR Zaa
def Zae := cL Zad
def Zaf := cR Zad
def Zag := cL Zab
def Zah := cR Zab
def Zai := cL Zag
def Zaj := cL Zai
def Zak := cR Zai
def Zal := cL Zaj
def Zam := cR Zaj
def Zan := cL Zam
def Zao := cR Zam
def Zap := cL Zak
def Zaq := cR Zak
def Zar := cL Zaq
def Zas := cR Zaq
def Zat := cL Zar
def Zau := cR Zar
def Zav := cL Zau
def Zaw := cL Zav
def Zax := cL Zaw
def Zay := cR Zaw
def Zaz := cL Zax
def Zb0 := cR Zax
def Zb1 := cL Zb0
def Zb2 := cR Zb0
def Zb3 := cL Zay
def Zb4 := cR Zay
def Zb5 := cL Zb3
def Zb6 := cL Zb5
def Zb7 := cR Zb5
def Zb8 := cL Zb7
def Zb9 := cR Zb7
def Zba := cL Zas
def Zbb := cR Zas
def Zbc := cL Zba
def Zbd := cR Zba
def Zbe := cL Zbd
def Zbf := cL Zbe
def Zbg := cL Zbf
def Zbh := cR Zbf
def Zbi := cL Zbg
def Zbj := cR Zbg
def Zbk := cL Zbj
def Zbl := cR Zbj
def Zbm := cL Zbh
def Zbn := cR Zbh
def Zbo := cL Zbm
def Zbp := cL Zbo
def Zbq := cR Zbo
def Zbr := cL Zbq
def Zbs := cR Zbq
def Zbt := cL Zbb
def Zbu := cR Zbb
def Zbv := cL Zbu
def Zbw := cR Zbu
def Zbx := cL Zbv
def Zby := cR Zbv
def Zbz := cL Za5
def Zc0 := cR Za5
set_option maxHeartbeats 1000000 in
set_option maxRecDepth 10000 in
theorem PlanarIs_t {w : World} {M : Hp} {X : Fr} (d : Dg) {dcrsA : Option Addr} {dcrsc : Nat} (hdcrs : RdA cdCr (M.un X.h) dcrsA dcrsc d.crs) (hn : d.crs.length ≤ 16) (hab : U1b d = true) (S : SH w M X []) : Ct Tryz.prog 32 [.agg [.slice dcrsA d.crs.length dcrsc, .int .i64 d.loops].toArray] w M X (fun u _ => u = .bool (planIs d)) := by
 unfold Ct
 have rmhdcrs : d.crs.length * 40 ≤ 140737488355328 := hdcrs.room
 refine Uo (b := Z9x) Tryz.func32 rfl Tryz.ntmps32 rfl (fun C hC => (U14 [(0, _)] ⟨rfl, trivial⟩ (U2 Z9y Z9z rfl rfl rfl (U1 rfl (wlo 0 1 rfl rfl rfl (U18 (l := [_, _]) rfl rfl rfl rfl rfl S ?_))))))
 intro gb1 w1 S1; clear S
 refine mvs 1 1 rfl rfl (U5 rfl (nmk [1] rfl (U4 (U2 Za0 Za1 rfl rfl rfl (U1 rfl (wlr 0 rfl (U8 (us := [_, _]) rfl rfl uT24 rfl sz24 (S1.boxcs (i := 0) rfl ⟨rfl, rfl, trivial⟩)) (wlo 1 2 rfl rfl rfl (U2w rfl rfl rfl rfl rfl rfl rfl cf25 S1 (PiecesOf_t d (hdcrs.mono S1.Uw) (hn) (hab) S1.lend) ?_))))))))
 intro vw2 w2 M1 hle1 S2 hRw2; clear S1
 replace hdcrs := hdcrs.mono (Hp.Ua hle1 S2.mx)
 obtain ⟨A1, c1, rfl, hr1⟩ := hRw2
 refine mvs 2 1 rfl rfl (U5 rfl (nmk [1, 3] rfl (U4 (U2 Za2 Za3 rfl rfl rfl (U1 rfl (wlr 0 rfl (U8 (us := [_, _]) rfl rfl uT24 rfl sz24 (S2.boxcs (i := 0) rfl ⟨rfl, rfl, trivial⟩)) (wlo 1 2 rfl rfl rfl (U2w rfl rfl rfl rfl rfl rfl rfl cf74 S2 (FacesOf_t d (hdcrs.mono S2.Uw) (hn) (hab) S2.lend) ?_))))))))
 intro vw3 w3 M2 hle2 S3 hRw3; clear S2
 replace hdcrs := hdcrs.mono (Hp.Ua hle2 S3.mx)
 replace hr1 := hr1.mono hle2
 obtain ⟨A2, c2, vs1, rfl, hr2, hd1⟩ := hRw3
 have hfl := hd1.1
 refine mvs 2 1 rfl rfl (U5 rfl (nmk [1, 3, 4] rfl (U4 (U2 Za4 Za5 rfl rfl rfl (U2 Za6 Za7 rfl rfl rfl (U1 rfl (mvs 0 1 rfl rfl (U5 rfl ?_))))))))
 refine U4 (Uc Za8 0 rfl rfl rfl ?_)
 refine U11 (fun mx_ ax_ wx_ => ∃ (p : Nat), mx_ = d.crs.length - p ∧ Env 71 [(1, .pointer (some ⟨gb1, 0, none⟩)), (3, .slice A1 (whoL d).length c1), (4, .slice A2 vs1.length c2), (5, .int .i64 (p : Int))] ax_ ∧ SH wx_ M2 X [Rs.box gb1 24 [.slice dcrsA d.crs.length dcrsc, .int .i64 d.loops]] ∧ p ≤ d.crs.length ∧ (∀ q, q < p → rootOk d q = true)) rfl ?_ ?_
 ·intro ax_ hax_
  refine ⟨_, ⟨0, rfl, hax_.sub ⟨rfl, rfl, rfl, rfl, trivial⟩, S3.pick [0] [_] (by decide) ⟨rfl, trivial⟩, ?hq1f0, ?hq1f1⟩⟩
  case hq1f0 => omega
  case hq1f1 => (intro q hq; omega)
 ·rintro m1 a1 w4 ⟨p, rfl, he1, S4, hp, hall⟩
  clear S3
  refine U1u he1 (c := Za9) rfl ?_
  clear he1 a1
  have hwl := rndsW_len d d.crs.length
  replace hwl : (whoL d).length = d.crs.length := hwl
  have hfm := facesL_many d
  refine U2 Zaa Zab rfl rfl rfl (U2 Zac Zad rfl rfl rfl (U1 rfl (mvs 0 2 rfl rfl (wlr 2 rfl (U1f rfl rfl rfl rfl rfl rfl uT53) (wlr 3 rfl (U17 rfl rfl rfl) (U5 rfl (nmk [1, 3, 4, 5, 16] rfl (U4 ?_))))))))
  refine Ue Zae Zaf rfl rfl rfl rfl (fun hb16 => ?_) (fun hb16 => ?_)
  ·refine Uf rfl (nmk [1, 3, 4, 5] rfl (U4 (U2 Zag Zah rfl rfl rfl (Uc Zai 1 rfl rfl rfl (U2 Zaj Zak rfl rfl rfl (U2 Zal Zam rfl rfl rfl (U1 rfl (mvs 0 2 rfl rfl ?_))))))))
   refine wlr 2 rfl (Uj (C := Uv) p rfl rfl rfl sl53 (by first | rfl | omega) hr1 (by first | omega | (simp only [ls]; omega))) ?_
   refine wlr 3 rfl (U3 rfl rfl uT3 rfl (hr1.cell S4.m (i := p) (by first | omega | (simp only [ls]; omega)) 0 rfl rfl)) ?_
   refine mvs 4 1 rfl rfl (wlr 5 rfl (U2k rfl rfl rfl) (U5 rfl (nmk [1, 3, 4, 5, 24] rfl (U4 ?_))))
   refine Ue Zan Zao rfl rfl rfl rfl (fun hb24 => ?_) (fun hb24 => ?_)
   ·refine U16 rfl rfl (nmk [1, 3, 4, 5] rfl (U4 (U1 rfl (mvs 0 1 rfl rfl (wlr 1 rfl (Ug rfl rfl rfl (by first | omega | (simp only [ls]; omega))) ?_)))))
    refine mvs 2 1 rfl rfl (U5 rfl (U15 ?_))
    intro ax_ hax_
    refine ⟨_, ?hq2m, ⟨p + 1, rfl, hax_.sub ⟨rfl, rfl, rfl, rfl, trivial⟩, S4.pick [0] [_] (by decide) ⟨rfl, trivial⟩, ?hq2f0, ?hq2f1⟩⟩
    case hq2f0 => omega
    case hq2f1 => (intro q hq; by_cases h : q = p; (subst h; unfold rootOk; rw [Bool.or_eq_true]; first | (left; exact decide_eq_true (by omega)) | (right; exact decide_eq_true (by omega))); exact hall q (by omega))
    case hq2m => omega
   ·refine Uf rfl (nmk [1, 3, 4, 5] rfl (U4 (U2 Zap Zaq rfl rfl rfl (U1 rfl (mvs 0 1 rfl rfl (U5 rfl (U4 (U2 Zar Zas rfl rfl rfl ?_))))))))
    refine U2 Zat Zau rfl rfl rfl (U1 rfl (mvs 0 1 rfl rfl (U5 rfl (U4 (Uc Zav 2 rfl rfl rfl ?_)))))
    refine U11 (fun mx_ ax_ wx_ => ∃ (i : Nat) (m : Int), mx_ = d.crs.length - i ∧ Env 71 [(1, .pointer (some ⟨gb1, 0, none⟩)), (3, .slice A1 (whoL d).length c1), (4, .slice A2 vs1.length c2), (5, .int .i64 (p : Int)), (6, .int .i64 m), (7, .int .i64 (i : Int))] ax_ ∧ SH wx_ M2 X [Rs.box gb1 24 [.slice dcrsA d.crs.length dcrsc, .int .i64 d.loops]] ∧ i ≤ d.crs.length ∧ m = negW (whoL d) p i) rfl ?_ ?_
    ·intro ax_ hax_
     refine ⟨_, ⟨0, _, rfl, hax_.sub ⟨rfl, rfl, rfl, rfl, rfl, rfl, trivial⟩, S4.pick [0] [_] (by decide) ⟨rfl, trivial⟩, ?hq3f0, ?hq3f1⟩⟩
     case hq3f0 => omega
     case hq3f1 => rfl
    ·rintro m2 a2 w5 ⟨i, m, rfl, he2, S5, hi, hm⟩
     clear S4
     refine U1u he2 (c := Zaw) rfl ?_
     clear he2 a2
     have hnb := negW_bd (whoL d) p i
     refine U2 Zax Zay rfl rfl rfl (U2 Zaz Zb0 rfl rfl rfl (U1 rfl (mvs 0 2 rfl rfl (wlr 2 rfl (U1f rfl rfl rfl rfl rfl rfl uT53) (wlr 3 rfl (U17 rfl rfl rfl) (U5 rfl (nmk [1, 3, 4, 5, 6, 7, 28] rfl (U4 ?_))))))))
     refine Ue Zb1 Zb2 rfl rfl rfl rfl (fun hb28 => ?_) (fun hb28 => ?_)
     ·refine Uf rfl (nmk [1, 3, 4, 5, 6, 7] rfl (U4 (U2 Zb3 Zb4 rfl rfl rfl (Uc Zb5 3 rfl rfl rfl (U2 Zb6 Zb7 rfl rfl rfl (U1 rfl (mvs 0 2 rfl rfl (wlr 2 rfl (Uj (C := Uv) i rfl rfl rfl sl53 (by first | rfl | omega) hr1 (by first | omega | (simp only [ls]; omega))) ?_))))))))
      refine wlr 3 rfl (U3 rfl rfl uT3 rfl (hr1.cell S5.m (i := i) (by first | omega | (simp only [ls]; omega)) 0 rfl rfl)) ?_
      refine mvs 4 1 rfl rfl (wlr 5 rfl (Uz rfl rfl rfl) (U5 rfl (nmk [1, 3, 4, 5, 6, 7, 36] rfl (U4 ?_))))
      refine Ue Zb8 Zb9 rfl rfl rfl rfl (fun hb36 => ?_) (fun hb36 => ?_)
      ·refine U1 rfl (mvs 0 1 rfl rfl (wlr 1 rfl (run_sub rfl rfl rfl (by first | omega | (simp only [ls]; omega))) ?_))
       refine mvs 2 1 rfl rfl (U5 rfl (U12 (nmk [1, 3, 4, 5, 6, 7] rfl (U4 (U1 rfl (mvs 0 1 rfl rfl (wlr 1 rfl (Ug rfl rfl rfl (by first | omega | (simp only [ls]; omega))) ?_)))))))
       refine mvs 2 1 rfl rfl (U5 rfl (U15 ?_))
       intro ax_ hax_
       refine ⟨_, ?hq4m, ⟨i + 1, _, rfl, hax_.sub ⟨rfl, rfl, rfl, rfl, rfl, rfl, trivial⟩, S5.pick [0] [_] (by decide) ⟨rfl, trivial⟩, ?hq4f0, ?hq4f1⟩⟩
       case hq4f0 => omega
       case hq4f1 => (rw [negW, hm]; first | rw [if_pos (by omega)] | rw [if_neg (by omega)])
       case hq4m => omega
      ·refine Uf rfl (U12 (nmk [1, 3, 4, 5, 6, 7] rfl (U4 (U1 rfl (mvs 0 1 rfl rfl (wlr 1 rfl (Ug rfl rfl rfl (by first | omega | (simp only [ls]; omega))) ?_))))))
       refine mvs 2 1 rfl rfl (U5 rfl (U15 ?_))
       intro ax_ hax_
       refine ⟨_, ?hq5m, ⟨i + 1, _, rfl, hax_.sub ⟨rfl, rfl, rfl, rfl, rfl, rfl, trivial⟩, S5.pick [0] [_] (by decide) ⟨rfl, trivial⟩, ?hq5f0, ?hq5f1⟩⟩
       case hq5f0 => omega
       case hq5f1 => (rw [negW, hm]; first | rw [if_pos (by omega)] | rw [if_neg (by omega)])
       case hq5m => omega
     ·refine U16 rfl rfl (nmk [1, 3, 4, 5, 6] rfl (U4 (U2 Zba Zbb rfl rfl rfl (U2 Zbc Zbd rfl rfl rfl (U1 rfl (mvs 0 1 rfl rfl (U5 rfl (U4 ?_))))))))
      refine Uc Zbe 4 rfl rfl rfl ?_
      refine U11 (fun mx_ ax_ wx_ => ∃ (k : Nat) (m2 : Int), mx_ = (U6 d).length - k ∧ Env 71 [(1, .pointer (some ⟨gb1, 0, none⟩)), (3, .slice A1 (whoL d).length c1), (4, .slice A2 vs1.length c2), (5, .int .i64 (p : Int)), (6, .int .i64 m2), (8, .int .i64 (k : Int))] ax_ ∧ SH wx_ M2 X [Rs.box gb1 24 [.slice dcrsA d.crs.length dcrsc, .int .i64 d.loops]] ∧ k ≤ (U6 d).length ∧ m2 = facW d (whoL d) p (negW (whoL d) p d.crs.length) k) rfl ?_ ?_
      ·intro ax_ hax_
       refine ⟨_, ⟨0, _, rfl, hax_.sub ⟨rfl, rfl, rfl, rfl, rfl, rfl, trivial⟩, S5.pick [0] [_] (by decide) ⟨rfl, trivial⟩, ?hq6f0, ?hq6f1⟩⟩
       case hq6f0 => omega
       case hq6f1 => (rw [hm, show i = d.crs.length by omega]; rfl)
      ·rintro m3 a3 w6 ⟨k, m2, rfl, he3, S6, hk, hm2⟩
       clear S5
       refine U1u he3 (c := Zbf) rfl ?_
       clear he3 a3
       have hnb := negW_bd (whoL d) p d.crs.length
       have hfb := facW_bd d (whoL d) p (negW (whoL d) p d.crs.length) k
       refine U2 Zbg Zbh rfl rfl rfl (U2 Zbi Zbj rfl rfl rfl (U1 rfl (mvs 0 2 rfl rfl (wlr 2 rfl (U1f rfl rfl rfl rfl rfl rfl uT65) (wlr 3 rfl (U17 rfl rfl rfl) (U5 rfl (nmk [1, 3, 4, 5, 6, 8, 42] rfl (U4 ?_))))))))
       refine Ue Zbk Zbl rfl rfl rfl rfl (fun hb42 => ?_) (fun hb42 => ?_)
       ·have hhd := hd0_ok (d := d) (k := k) (by omega)
        have hfc := fcC_lt hab (k := k) (by omega)
        obtain ⟨hh0, hok⟩ := hhd
        have hfe : fcC d k = (Ud d (ga (ga (U6 d) k) 0).a (ga (ga (U6 d) k) 0).b).1 := rfl
        rw [hfe] at hfc
        refine Uf rfl (nmk [1, 3, 4, 5, 6, 8] rfl (U4 (U2 Zbm Zbn rfl rfl rfl (Uc Zbo 5 rfl rfl rfl (U2 Zbp Zbq rfl rfl rfl (Ux rfl (by kernel_rfl) S6 22 rfl ?_))))))
        clear S6
        refine wap 0 21 rfl (by kernel_rfl) (fun _ => run_move rfl rfl) ?_
        refine wat 1 20 rfl (by kernel_rfl) (fun _ _ _ hz Sz => .inl (U8 (us := [_, _]) rfl rfl uT24 rfl sz24 (Sz.suf.boxcs (i := 0) rfl ⟨rfl, rfl, trivial⟩))) ?_
        refine wap 2 19 rfl (by kernel_rfl) (fun _ => run_move rfl rfl) ?_
        refine wap 3 18 rfl (by kernel_rfl) (fun _ => run_move rfl rfl) ?_
        refine wat 4 17 rfl (by kernel_rfl) (fun _ _ _ hz Sz => .inl (Uj (C := (cdV 141)) k rfl rfl rfl sl65 (by first | rfl | omega) (hr2.mono hz) (by first | omega | (simp only [ls]; omega)))) ?_
        obtain ⟨hn1, hr3⟩ := hd1.2 k (by first | omega | (simp only [ls]; omega))
        have rmhr3 : (ga (U6 d) k).length * 16 ≤ 140737488355328 := hr3.room
        refine wat 5 16 rfl (by kernel_rfl) (fun _ _ _ hz Sz => .inl (U3 rfl rfl uT141 rfl ((hr2.mono hz).cell Sz.m (i := k) (by first | omega | (simp only [ls]; omega)) 0 rfl (congrArg (fun n => some (Value.slice _ n _)) hn1)))) ?_
        refine wat 6 15 rfl (by kernel_rfl) (fun _ _ _ hz Sz => .inl (Uj (C := cdDa) 0 rfl rfl rfl sl141 (by first | rfl | omega) (hr3.mono hz) (by first | omega | (simp only [ls]; omega)))) ?_
        refine wap 7 14 rfl (by kernel_rfl) (fun _ => U0 rfl rfl uT26 rfl (ce3) (nf3)) ?_
        refine wat 8 13 rfl (by kernel_rfl) (fun _ _ _ hz Sz => .inl (U3 rfl rfl uT3 rfl ((hr3.mono hz).cell Sz.m (i := 0) (by first | omega | (simp only [ls]; omega)) 0 rfl rfl))) ?_
        refine wap 9 12 rfl (by kernel_rfl) (fun _ => run_move rfl rfl) ?_
        refine wap 10 11 rfl (by kernel_rfl) (fun _ => run_move rfl rfl) ?_
        refine wat 11 10 rfl (by kernel_rfl) (fun _ _ _ hz Sz => .inl (Uj (C := (cdV 141)) k rfl rfl rfl sl65 (by first | rfl | omega) (hr2.mono hz) (by first | omega | (simp only [ls]; omega)))) ?_
        obtain ⟨hn2, hr4⟩ := hd1.2 k (by first | omega | (simp only [ls]; omega))
        have rmhr4 : (ga (U6 d) k).length * 16 ≤ 140737488355328 := hr4.room
        refine wat 12 9 rfl (by kernel_rfl) (fun _ _ _ hz Sz => .inl (U3 rfl rfl uT141 rfl ((hr2.mono hz).cell Sz.m (i := k) (by first | omega | (simp only [ls]; omega)) 0 rfl (congrArg (fun n => some (Value.slice _ n _)) hn2)))) ?_
        refine wat 13 8 rfl (by kernel_rfl) (fun _ _ _ hz Sz => .inl (Uj (C := cdDa) 0 rfl rfl rfl sl141 (by first | rfl | omega) (hr4.mono hz) (by first | omega | (simp only [ls]; omega)))) ?_
        refine wap 14 7 rfl (by kernel_rfl) (fun _ => U0 rfl rfl uT26 rfl (ce4) (nf4)) ?_
        refine wat 15 6 rfl (by kernel_rfl) (fun _ _ _ hz Sz => .inl (U3 rfl rfl uT4 rfl ((hr4.mono hz).cell Sz.m (i := 0) (by first | omega | (simp only [ls]; omega)) 1 rfl rfl))) ?_
        refine wat 16 5 rfl (by kernel_rfl) (fun _ _ _ hz Sz => Uq rfl rfl rfl rfl rfl cf60 Sz (U33 d ((ga (ga (U6 d) k) 0).a) ((ga (ga (U6 d) k) 0).b) ((hdcrs.mono (Hp.Ua hz Sz.mx)).mono Sz.Uw) Sz.lend)) ?_
        refine wap 17 4 rfl (by kernel_rfl) (fun _ => U23 rfl rfl uT120 rfl uT3 rfl rfl) ?_
        refine wat 18 3 rfl (by kernel_rfl) (fun _ _ _ hz Sz => .inl (Uj (C := Uv) ((Ud d ((ga (ga (U6 d) k) 0).a) ((ga (ga (U6 d) k) 0).b)).1) rfl rfl rfl sl53 (by first | rfl | omega) (hr1.mono hz) (by first | omega | (simp only [ls]; omega)))) ?_
        refine wat 19 2 rfl (by kernel_rfl) (fun _ _ _ hz Sz => .inl (U3 rfl rfl uT3 rfl ((hr1.mono hz).cell Sz.m (i := (Ud d ((ga (ga (U6 d) k) 0).a) ((ga (ga (U6 d) k) 0).b)).1) (by first | omega | (simp only [ls]; omega)) 0 rfl rfl))) ?_
        refine wap 20 1 rfl (by kernel_rfl) (fun _ => run_move rfl rfl) ?_
        refine wap 21 0 rfl (by kernel_rfl) (fun _ => Uz rfl rfl rfl) ?_
        refine Uu (by kernel_rfl) (fun w29 S29 => ?_)
        refine nmk [1, 3, 4, 5, 6, 8, 66] rfl (U4 ?_)
        refine Ue Zbr Zbs rfl rfl rfl rfl (fun hb66 => ?_) (fun hb66 => ?_)
        ·refine U1 rfl (mvs 0 1 rfl rfl (wlr 1 rfl (Ug rfl rfl rfl (by first | omega | (simp only [ls]; omega))) ?_))
         refine mvs 2 1 rfl rfl (U5 rfl (U12 (nmk [1, 3, 4, 5, 6, 8] rfl (U4 (U1 rfl (mvs 0 1 rfl rfl (wlr 1 rfl (Ug rfl rfl rfl (by first | omega | (simp only [ls]; omega))) ?_)))))))
         refine mvs 2 1 rfl rfl (U5 rfl (U15 ?_))
         intro ax_ hax_
         refine ⟨_, ?hq7m, ⟨k + 1, _, rfl, hax_.sub ⟨rfl, rfl, rfl, rfl, rfl, rfl, trivial⟩, S29.pick [0] [_] (by decide) ⟨rfl, trivial⟩, ?hq7f0, ?hq7f1⟩⟩
         case hq7f0 => omega
         case hq7f1 => (rw [facW, hm2, hfe]; first | rw [if_pos (by omega)] | rw [if_neg (by omega)])
         case hq7m => omega
        ·refine Uf rfl (U12 (nmk [1, 3, 4, 5, 6, 8] rfl (U4 (U1 rfl (mvs 0 1 rfl rfl (wlr 1 rfl (Ug rfl rfl rfl (by first | omega | (simp only [ls]; omega))) ?_))))))
         refine mvs 2 1 rfl rfl (U5 rfl (U15 ?_))
         intro ax_ hax_
         refine ⟨_, ?hq8m, ⟨k + 1, _, rfl, hax_.sub ⟨rfl, rfl, rfl, rfl, rfl, rfl, trivial⟩, S29.pick [0] [_] (by decide) ⟨rfl, trivial⟩, ?hq8f0, ?hq8f1⟩⟩
         case hq8f0 => omega
         case hq8f1 => (rw [facW, hm2, hfe]; first | rw [if_pos (by omega)] | rw [if_neg (by omega)])
         case hq8m => omega
       ·have hm3 : m2 = facW d (whoL d) p (negW (whoL d) p d.crs.length) (U6 d).length := by rw [hm2, show k = (U6 d).length by omega]
        refine U16 rfl rfl (nmk [1, 3, 4, 5, 6] rfl (U4 (U2 Zbt Zbu rfl rfl rfl (U1 rfl (mvs 0 1 rfl rfl (wlr 1 rfl (U2k rfl rfl rfl) (U5 rfl (nmk [1, 3, 4, 5, 70] rfl ?_))))))))
        refine U4 ?_
        refine Ue Zbv Zbw rfl rfl rfl rfl (fun hb70 => ?_) (fun hb70 => ?_)
        ·refine U2 Zbx Zby rfl rfl rfl (U1 rfl (mvs 0 1 rfl rfl (U5 rfl (nmk [2] rfl (U4 (Uk hC [_] rfl rfl ⟨rfl, trivial⟩ ?_))))))
         refine ⟨_, rfl, _, hle1.trans hle2, (S6.pick [] [] (by decide) trivial), ?_⟩
         refine congrArg Value.bool (planIs_f (p := p) (by omega) ?_).symm
         unfold rootOk
         rw [Bool.or_eq_false_iff]
         exact ⟨decide_eq_false (by omega), decide_eq_false (by omega)⟩
        ·refine Uf rfl (U12 (nmk [1, 3, 4, 5] rfl (U4 (U1 rfl (mvs 0 1 rfl rfl (wlr 1 rfl (Ug rfl rfl rfl (by first | omega | (simp only [ls]; omega))) ?_))))))
         refine mvs 2 1 rfl rfl (U5 rfl (U15 ?_))
         intro ax_ hax_
         refine ⟨_, ?hq9m, ⟨p + 1, rfl, hax_.sub ⟨rfl, rfl, rfl, rfl, trivial⟩, S6.pick [0] [_] (by decide) ⟨rfl, trivial⟩, ?hq9f0, ?hq9f1⟩⟩
         case hq9f0 => omega
         case hq9f1 => (intro q hq; by_cases h : q = p; (subst h; unfold rootOk; rw [Bool.or_eq_true]; first | (left; exact decide_eq_true (by omega)) | (right; exact decide_eq_true (by omega))); exact hall q (by omega))
         case hq9m => omega
  ·refine U16 rfl rfl (U1a [] trivial (U4 (U2 Zbz Zc0 rfl rfl rfl (U1 rfl (mvs 0 1 rfl rfl (U5 rfl (U4 (Uk hC [_] rfl rfl ⟨rfl, trivial⟩ ?_))))))))
   refine ⟨_, rfl, _, hle1.trans hle2, (S4.pick [] [] (by decide) trivial), ?_⟩
   exact congrArg Value.bool (planIs_t (fun q hq => hall q (by omega))).symm
end Go.Proofs.YthppkofceancjaaGreat
namespace Go.Proofs.YthppkofceancjaaGreat
open Go.Shelf
def srtL_ren : Go.Shelf.Ren := ⟨fun | 189 => 143 | 125 => 102 | 257 => 183 | 128 => 160 | 129 => 161 | 294 => 196 | 295 => 197 | 296 => 198 | 297 => 199 | 298 => 200 | 299 => 201 | 216 => 202 | 300 => 203 | 301 => 204 | 328 => 207 | 329 => 188 | 330 => 189 | 331 => 208 | 332 => 209 | 215 => 210 | 343 => 211 | n => n, fun | 28 => 53 | 3 => 3 | 46 => 185 | 0 => 0 | 51 => 244 | 53 => 246 | 4 => 4 | 183 => 237 | 182 => 236 | 131 => 241 | 5 => 5 | 9 => 9 | 218 => 265 | 222 => 251 | 228 => 276 | 229 => 152 | n => n, fun | n => n⟩
theorem srtL : Go.Proofs.Lays.n189 Tryz.prog srtL_ren := {
  mixed := by kernel_rfl
  f125 := Tryz.func102.trans (congrArg some (by kernel_rfl))
  f128 := Tryz.func160.trans (congrArg some (by kernel_rfl))
  f129 := Tryz.func161.trans (congrArg some (by kernel_rfl))
  f189 := Tryz.func143.trans (congrArg some (by kernel_rfl))
  f215 := Tryz.func210.trans (congrArg some (by kernel_rfl))
  f216 := Tryz.func202.trans (congrArg some (by kernel_rfl))
  f257 := Tryz.func183.trans (congrArg some (by kernel_rfl))
  f294 := Tryz.func196.trans (congrArg some (by kernel_rfl))
  f295 := Tryz.func197.trans (congrArg some (by kernel_rfl))
  f296 := Tryz.func198.trans (congrArg some (by kernel_rfl))
  f297 := Tryz.func199.trans (congrArg some (by kernel_rfl))
  f298 := Tryz.func200.trans (congrArg some (by kernel_rfl))
  f299 := Tryz.func201.trans (congrArg some (by kernel_rfl))
  f300 := Tryz.func203.trans (congrArg some (by kernel_rfl))
  f301 := Tryz.func204.trans (congrArg some (by kernel_rfl))
  f328 := Tryz.func207.trans (congrArg some (by kernel_rfl))
  f329 := Tryz.func188.trans (congrArg some (by kernel_rfl))
  f330 := Tryz.func189.trans (congrArg some (by kernel_rfl))
  f331 := Tryz.func208.trans (congrArg some (by kernel_rfl))
  f332 := Tryz.func209.trans (congrArg some (by kernel_rfl))
  f343 := Tryz.func211.trans (congrArg some (by kernel_rfl))
  t0 := uT0
  a0 := Tryz.isAgg0
  z0 := Tryz.sizeOf0
  v0 := Tryz.zeroValue0
  t3 := uT3
  a3 := Tryz.isAgg3
  z3 := Tryz.sizeOf3
  v3 := Tryz.zeroValue3
  t4 := uT4
  a4 := Tryz.isAgg4
  z4 := Tryz.sizeOf4
  v4 := Tryz.zeroValue4
  t5 := uT5
  a5 := Tryz.isAgg5
  z5 := Tryz.sizeOf5
  v5 := Tryz.zeroValue5
  t9 := uT9
  a9 := Tryz.isAgg9
  z9 := Tryz.sizeOf9
  v9 := Tryz.zeroValue9
  t28 := uT53
  a28 := Tryz.isAgg53
  z28 := Tryz.sizeOf53
  v28 := Tryz.zeroValue53
  t46 := uT185
  a46 := Tryz.isAgg185
  z46 := Tryz.sizeOf185
  v46 := Tryz.zeroValue185
  t51 := uT244
  a51 := Tryz.isAgg244
  z51 := Tryz.sizeOf244
  v51 := Tryz.zeroValue244
  t53 := uT246
  a53 := Tryz.isAgg246
  z53 := Tryz.sizeOf246
  v53 := Tryz.zeroValue246
  t131 := uT241
  a131 := Tryz.isAgg241
  z131 := Tryz.sizeOf241
  v131 := Tryz.zeroValue241
  t182 := uT236
  a182 := Tryz.isAgg236
  z182 := Tryz.sizeOf236
  v182 := Tryz.zeroValue236
  t183 := uT237
  a183 := Tryz.isAgg237
  z183 := Tryz.sizeOf237
  v183 := Tryz.zeroValue237
  t218 := uT265
  a218 := Tryz.isAgg265
  z218 := Tryz.sizeOf265
  v218 := Tryz.zeroValue265
  t222 := uT251
  a222 := Tryz.isAgg251
  z222 := Tryz.sizeOf251
  v222 := Tryz.zeroValue251
  t228 := uT276
  a228 := Tryz.isAgg276
  z228 := Tryz.sizeOf276
  v228 := Tryz.zeroValue276
  t229 := uT152
  a229 := Tryz.isAgg152
  z229 := Tryz.sizeOf152
  v229 := Tryz.zeroValue152 }
theorem sort_w {w : World} {M : Hp} {X : Fr} {v : Value} {xs : List Int} (hsz : xs.length < 4611686018427387904) (S : SH w M X [Rs.row Uv v xs]) :
    C1 Tryz.prog 143 [v] w M X fun u M' r' => u = .tuple #[] ∧ M' = M ∧ r' = Rs.row Uv v (srt xs) := c1_sort srtL hsz S
end Go.Proofs.YthppkofceancjaaGreat
namespace Go.Proofs.YthppkofceancjaaGreat
open Go.ChangeShapes Go.WideShapes Go.ChangeAt Go.RowKit
def nbC (d : Dg) (x k : Nat) : Nat := (Ud d (U1g d x k) (U1k d x k)).1
def addS (s : List Bool × List Int) (y : Nat) : List Bool × List Int := if ga s.1 y = true then s else (s.1.set y true, s.2 ++ [(y : Int)])
def bfsS (d : Dg) (x : Nat) (s : List Bool × List Int) : Nat → List Bool × List Int
 | 0 => s
 | k + 1 => addS (bfsS d x s k) (nbC d x k)
def bfsN (d : Dg) : Nat → Nat → List Bool × List Int → List Bool × List Int
 | 0, _, s => s
 | f + 1, i, s => if i < s.2.length then bfsN d f (i + 1) (bfsS d (ga s.2 i).toNat s 4) else s
def pcsN (d : Dg) : Nat → List Bool × List (List Int)
 | 0 => (List.replicate d.crs.length false, [])
 | c + 1 => if ga (pcsN d c).1 c = true then pcsN d c else ((bfsN d d.crs.length 0 ((pcsN d c).1.set c true, [(c : Int)])).1, (pcsN d c).2 ++ [srt (bfsN d d.crs.length 0 ((pcsN d c).1.set c true, [(c : Int)])).2])
def pcsL (d : Dg) : List (List Int) := (pcsN d d.crs.length).2
theorem bfsN_stop {d : Dg} {f i : Nat} {s : List Bool × List Int} (h : s.2.length ≤ i) : bfsN d f i s = s := by
 cases f with
 | zero => rfl
 | succ f => rw [bfsN, if_neg (by omega)]
theorem bfsN_go {d : Dg} {f i x : Nat} {s s' : List Bool × List Int} (h : i < s.2.length) (hx : ga s.2 i = (x : Int)) (hs : bfsS d x s 4 = s') : bfsN d (f + 1) i s = bfsN d f (i + 1) s' := by
 rw [bfsN, if_pos h, hx, Int.toNat_natCast, hs]
theorem pcsN_skip {d : Dg} {c : Nat} {s : List Bool × List (List Int)} (h : pcsN d c = s) (hg : ga s.1 c = true) : pcsN d (c + 1) = s := by
 rw [pcsN, h, if_pos hg]
theorem pcsN_add {d : Dg} {c : Nat} {s : List Bool × List (List Int)} {r : List Bool × List Int} (h : pcsN d c = s) (hg : ga s.1 c = false) (hr : bfsN d d.crs.length 0 (s.1.set c true, [(c : Int)]) = r) : pcsN d (c + 1) = (r.1, s.2 ++ [srt r.2]) := by
 rw [pcsN, h, if_neg (by rw [hg]; exact Bool.false_ne_true), hr]
theorem bfsN_len (d : Dg) (f i : Nat) (s : List Bool × List Int) : (bfsN d f i s).1.length = s.1.length := by
 have h1 : ∀ x s k, (bfsS d x s k).1.length = s.1.length := fun x s k => by
  induction k with
  | zero => rfl
  | succ k ih => rw [bfsS, addS]; split <;> simp [ih]
 induction f generalizing i s with
 | zero => rfl
 | succ f ih => rw [bfsN]; split <;> simp [ih, h1]
theorem pcsN_len (d : Dg) (c : Nat) : (pcsN d c).1.length = d.crs.length := by
 induction c with
 | zero => simp [pcsN]
 | succ c ih => rw [pcsN]; split <;> simp [ih, bfsN_len]
theorem pcsN_many (d : Dg) (c : Nat) : (pcsN d c).2.length ≤ c := by
 induction c with
 | zero => simp [pcsN]
 | succ c ih => rw [pcsN]; split; exact Nat.le_succ_of_le ih; rw [List.length_append]; show _ + 1 ≤ _; omega
theorem nbC_lt {d : Dg} (h : U1b d = true) {x k : Nat} (hx : x < d.crs.length) (hk : k < 4) : nbC d x k < d.crs.length := (endD h (U2b h hx hk) _).1
noncomputable def Zc1:=Tryz.f105.body.getD .skip
def Zc2 := cL Zc1
def Zc3 := cR Zc1
def Zc4 := cL Zc3
def Zc5 := cR Zc3
def Zc6 := cL Zc5
def Zc7 := cR Zc5
def Zc8 := cL Zc7
def Zc9 := cR Zc7
def Zca := cL Zc8
def Zcb := cR Zc8
def Zcc := cL Zcb
def Zcd := cL Zcc
def Zce := cL Zcd
def Zcf := cR Zcd
def Zcg := cL Zcf
def Zch := cR Zcf
def Zci := cL Zcg
def Zcj := cR Zcg
def Zck := cL Zch
def Zcl := cR Zch
def Zcm := cL Zck
def Zcn := cL Zcm
def Zco := cR Zcm
def Zcp := cL Zco
def Zcq := cR Zco
def Zcr := cL Zcp
def Zcs := cR Zcp
def Zct := cL Zcs
def Zcu := cR Zcs
def Zcv := cL Zcq
def Zcw := cR Zcq
def Zcx := cL Zcw
def Zcy := cR Zcw
def Zcz := cL Zcy
def Zd0 := cR Zcy
def Zd1 := cL Zcz
def Zd2 := cR Zcz
def Zd3 := cL Zd2
def Zd4 := cL Zd3
def Zd5 := cL Zd4
def Zd6 := cR Zd4
def Zd7 := cL Zd5
def Zd8 := cR Zd5
def Zd9 := cL Zd8
def Zda := cR Zd8
def Zdb := cL Zd6
def Zdc := cR Zd6
def Zdd := cL Zdb
def Zde := cL Zdd
def Zdf := cR Zdd
def Zdg := cL Zdf
def Zdh := cL Zdg
def Zdi := cL Zdh
def Zdj := cR Zdh
def Zdk := cL Zdj
def Zdl := cR Zdj
def Zdm := cL Zdk
def Zdn := cR Zdk
def Zdo := cL Zdl
def Zdp := cR Zdl
def Zdq := cL Zdo
def Zdr := cL Zdq
def Zds := cR Zdq
def Zdt := cL Zds
def Zdu := cR Zds
def Zdv := cL Zdu
def Zdw := cR Zdu
def Zdx := cL Zdw
def Zdy := cR Zdw
def Zdz := cL Zdx
def Ze0 := cR Zdx
def Ze1 := cL Zd0
def Ze2 := cR Zd0
def Ze3 := cL Zc9
def Ze4 := cR Zc9
set_option maxHeartbeats 1000000 in
set_option maxRecDepth 10000 in
theorem Pieces_t {w : World} {M : Hp} {X : Fr} (d : Dg) {gsh : Nat} {cA iA oA : Option Addr} {cc ic oc : Nat} (hsb : BxM (M.un X.h) gsh 70 [.slice cA d.crs.length cc, .int .i64 d.loops, .slice iA (tabL d false (4 * d.crs.length)).length ic, .slice oA (tabL d true (4 * d.crs.length)).length oc]) (hsc : RdA cdCr (M.un X.h) cA cc d.crs) (hsi : RdA cdPl (M.un X.h) iA ic (tabL d false (4 * d.crs.length))) (hso : RdA cdPl (M.un X.h) oA oc (tabL d true (4 * d.crs.length))) (hn : d.crs.length ≤ 16) (hab : U1b d = true) (S : SH w M X []) : Ct Tryz.prog 105 [.pointer (some ⟨gsh, 0, none⟩)] w M X (fun u M => ∃ A c vs, u = .slice A vs.length c ∧ RdA (cdV 53) M A c vs ∧ Rd2 Uv M vs (pcsL d)) := by
 unfold Ct
 refine Uo (b := Zc1) Tryz.func105 rfl Tryz.ntmps105 rfl (fun C hC => (U14 [(0, _)] ⟨rfl, trivial⟩ (U2 Zc2 Zc3 rfl rfl rfl (U1 rfl (mvs 0 1 rfl rfl (U5 rfl (nmk [0] rfl (U4 (U2 Zc4 Zc5 rfl rfl rfl ?_)))))))))
 refine U1 rfl (mvs 0 1 rfl rfl (wlr 1 rfl (U9 rfl rfl) (wlr 2 rfl (U0 rfl rfl uT70 rfl (ce24) (nf24)) (wlr 3 rfl (U0 rfl rfl uT24 rfl (ce22) (nf22)) (wlr 4 rfl (U3 rfl rfl uT22 rfl (hsb.cell S.um rfl)) (wlr 5 rfl (U1f rfl rfl rfl rfl rfl rfl uT22) (wlo 6 7 rfl rfl rfl (wo_make (C := U2f) d.crs.length rfl rfl rfl rfl rfl sl130 (by first | rfl | omega) (by show _ * 1 ≤ _; first | omega | (simp only [ls]; omega)) S ?_))))))))
 intro vr1 w1 S1; clear S
 refine mvs 7 1 rfl rfl (U5 rfl (nmk [0, 3] rfl (U4 (U2 Zc6 Zc7 rfl rfl rfl (U1 rfl (mvs 0 1 rfl rfl (U5 rfl (U4 ?_))))))))
 refine U2 Zc8 Zc9 rfl rfl rfl (U2 Zca Zcb rfl rfl rfl (U1 rfl (mvs 0 1 rfl rfl (wlr 1 rfl (U9 rfl rfl) (wlr 2 rfl (U0 rfl rfl uT70 rfl (ce24) (nf24)) (wlr 3 rfl (U0 rfl rfl uT24 rfl (ce22) (nf22)) (wlr 4 rfl (U3 rfl rfl uT22 rfl (hsb.cell S1.um rfl)) (wlr 5 rfl (U1f rfl rfl rfl rfl rfl rfl uT22) ?_))))))))
 refine mvs 6 1 rfl rfl (U5 rfl (nmk [0, 3, 4, 22, 23] rfl (U4 (Uc Zcc 0 rfl rfl rfl ?_))))
 have S2 := S1.nilrow (cdV 53); clear S1
 refine U11 (fun mx_ ax_ wx_ => ∃ (c : Nat) (seen : List Bool) (vs : List SlV) (pss : List (List Int)) (vrs : Value) (vro : Value) (M1 : Hp), M.le M1 ∧ mx_ = d.crs.length - c ∧ Env 74 [(0, .pointer (some ⟨gsh, 0, none⟩)), (3, vrs), (4, vro), (22, .int .i64 (d.crs.length : Int)), (23, .int .i64 (c : Int))] ax_ ∧ SH wx_ M1 X [Rs.row (cdV 53) vro vs, Rs.row U2f vrs seen] ∧ c ≤ d.crs.length ∧ pcsN d c = (seen, pss) ∧ Rd2 Uv M1 vs pss) rfl ?_ ?_
 ·intro ax_ hax_
  refine ⟨_, ⟨0, _, _, [], _, _, _, Hp.le_refl _, rfl, hax_.sub ⟨rfl, rfl, rfl, rfl, rfl, trivial⟩, S2.pick [0, 1] [_, _] (by decide) ⟨rfl, rfl, trivial⟩, ?hq1f0, ?hq1f1, ?hq1f2⟩⟩
  case hq1f0 => omega
  case hq1f1 => rfl
  case hq1f2 => first | exact Rd2.nil_ | (rw [e9]; exact Rd2.nil_)
 ·rintro m1 a1 w2 ⟨c, seen, vs, pss, vrs, vro, M1, hle1, rfl, he1, S3, hc, hpn, hdo⟩
  clear S2
  refine U1u he1 (c := Zcd) rfl ?_
  clear he1 a1
  replace hsb := hsb.mono (Hp.Ua hle1 S3.mx)
  replace hsc := hsc.mono (Hp.Ua hle1 S3.mx)
  replace hsi := hsi.mono (Hp.Ua hle1 S3.mx)
  replace hso := hso.mono (Hp.Ua hle1 S3.mx)
  have hvs := hdo.1
  have hmany := pcsN_many d c
  rw [hpn] at hmany
  replace hmany : pss.length ≤ c := hmany
  have hsl : seen.length = d.crs.length := by have h9 := pcsN_len d c; rw [hpn] at h9; exact h9
  refine U2 Zce Zcf rfl rfl rfl (U1 rfl (wlr 0 rfl (U17 rfl rfl rfl) (U5 rfl (U4 (U2 Zcg Zch rfl rfl rfl ?_)))))
  refine Ue Zci Zcj rfl rfl rfl rfl (fun hb24 => ?_) (fun hb24 => ?_)
  ·refine Uf rfl (nmk [0, 3, 4, 22, 23] rfl (U4 (U2 Zck Zcl rfl rfl rfl (Uc Zcm 1 rfl rfl rfl (U2 Zcn Zco rfl rfl rfl (U1 rfl (mvs 0 2 rfl rfl (U5 rfl ?_))))))))
   refine nmk [0, 3, 4, 22, 23, 5] rfl (U4 (U2 Zcp Zcq rfl rfl rfl (U2 Zcr Zcs rfl rfl rfl (U1 rfl (mvs 0 2 rfl rfl (wlr 2 rfl (Ui (C := U2f) (i := 1) c rfl rfl rfl sl130 S3 rfl (by first | rfl | omega) (by first | omega | (simp only [ls]; omega))) ?_))))))
   refine wlr 3 rfl (U3 rfl rfl uT4 rfl (S3.rowc (i := 1) (e := c) (j := 0) rfl (by first | omega | (simp only [ls]; omega)) rfl rfl)) ?_
   refine U5 rfl (nmk [0, 3, 4, 22, 23, 5, 29] rfl (U4 ?_))
   refine U19 Zct Zcu rfl rfl rfl rfl (fun hb29 => ?_) (fun hb29 => ?_)
   ·refine U16 rfl rfl (nmk [0, 3, 4, 22, 23] rfl (U4 (U1 rfl (wlr 0 rfl (Ug rfl rfl rfl (by first | omega | (simp only [ls]; omega))) ?_))))
    refine mvs 1 1 rfl rfl (U5 rfl (U15 ?_))
    intro ax_ hax_
    refine ⟨_, ?hq2m, ⟨c + 1, _, _, pss, _, _, _, (hle1), rfl, hax_.sub ⟨rfl, rfl, rfl, rfl, rfl, trivial⟩, S3.pick [0, 1] [_, _] (by decide) ⟨rfl, rfl, trivial⟩, ?hq2f0, ?hq2f1, ?hq2f2⟩⟩
    case hq2f0 => omega
    case hq2f1 => first | exact pcsN_skip hpn hb29 | exact pcsN_add hpn (by simpa using hb29) (hbf.trans (bfsN_stop (by show l.length ≤ i; omega)))
    case hq2f2 => first | exact hdo | (rw [e9]; exact hdo)
    case hq2m => omega
   ·refine Uf rfl (nmk [0, 3, 4, 22, 23, 5] rfl (U4 (U2 Zcv Zcw rfl rfl rfl (U1 rfl (mvs 0 2 rfl rfl (wlr 2 rfl (Ui (C := U2f) (i := 1) c rfl rfl rfl sl130 S3 rfl (by first | rfl | omega) (by first | omega | (simp only [ls]; omega))) ?_))))))
    refine wlo 3 4 rfl rfl rfl (U1i (C := U2f) (i := 1) (e := c) (j := 0) (us := [_]) (H' := [_, _]) true rfl rfl S3 rfl (by first | omega | (simp only [ls]; omega)) rfl rfl rfl sz4 rfl rfl rfl rfl ?_)
    intro w3 S4; clear S3
    refine U5 rfl (nmk [0, 3, 4, 22, 23, 5] rfl (U4 (U2 Zcx Zcy rfl rfl rfl (U1 rfl (mvs 0 1 rfl rfl (wlo 1 2 rfl rfl rfl (U13 (C := Uv) (l := [_]) rfl rfl rfl rfl sl53 rfl rfl rfl rfl S4 ?_)))))))
    intro gb1 w4 S5; clear S4
    refine mvs 2 1 rfl rfl (U5 rfl (nmk [0, 3, 4, 22, 23, 6] rfl (U4 (U2 Zcz Zd0 rfl rfl rfl (U2 Zd1 Zd2 rfl rfl rfl (U1 rfl (mvs 0 1 rfl rfl (U5 rfl ?_))))))))
    refine U4 (Uc Zd3 2 rfl rfl rfl ?_)
    have S6 := S5.boxrow (C := Uv) [(c : Int)] (i := 0) (H' := [_, _, _]) rfl rfl (by simp) rfl; clear S5
    obtain ⟨vr3, er3⟩ : ∃ v, v = Value.slice (some ⟨gb1, 0, none⟩) ([(c : Int)]).length ([(c : Int)]).length := ⟨_, rfl⟩
    rw [← er3] at S6
    refine ws_eq 6 (vr3) rfl er3.symm ?_
    refine U11 (fun mx_ ax_ wx_ => ∃ (i : Nat) (seen2 : List Bool) (l : List Int) (vrs2 : Value) (vrl : Value), mx_ = d.crs.length - i ∧ Env 74 [(0, .pointer (some ⟨gsh, 0, none⟩)), (3, vrs2), (4, vro), (22, .int .i64 (d.crs.length : Int)), (23, .int .i64 (c : Int)), (6, vrl), (7, .int .i64 (i : Int))] ax_ ∧ SH wx_ M1 X [Rs.row Uv vrl l, Rs.row (cdV 53) vro vs, Rs.row U2f vrs2 seen2] ∧ bfsN d d.crs.length 0 (seen.set c true, [(c : Int)]) = bfsN d (d.crs.length - i) i (seen2, l) ∧ i ≤ l.length ∧ l.length + free seen2 ≤ d.crs.length ∧ (∀ y, y ∈ l → 0 ≤ y ∧ y < (d.crs.length : Int)) ∧ seen2.length = d.crs.length) rfl ?_ ?_
    ·intro ax_ hax_
     refine ⟨_, ⟨0, _, _, _, _, rfl, hax_.sub ⟨rfl, rfl, rfl, rfl, rfl, rfl, rfl, trivial⟩, S6.pick [0, 1, 2] [_, _, _] (by decide) ⟨rfl, rfl, rfl, trivial⟩, ?hq3f0, ?hq3f1, ?hq3f2, ?hq3f3, ?hq3f4⟩⟩
     case hq3f0 => rfl
     case hq3f1 => (exact Nat.zero_le _)
     case hq3f2 => (have h8 := U2s (seen := seen) (x := c) (by omega) (by simpa using hb29); have h9 : free seen ≤ seen.length := List.countP_le_length; show 1 + _ ≤ _; omega)
     case hq3f3 => (intro y hy; rw [List.mem_singleton] at hy; subst hy; omega)
     case hq3f4 => (rw [List.length_set]; exact hsl)
    ·rintro m2 a2 w5 ⟨i, seen2, l, vrs2, vrl, rfl, he2, S7, hbf, hi, hfr, hin, hs2⟩
     clear S6
     refine U1u he2 (c := Zd4) rfl ?_
     clear he2 a2
     refine U2 Zd5 Zd6 rfl rfl rfl (U2 Zd7 Zd8 rfl rfl rfl (U1 rfl (mvs 0 2 rfl rfl (wlr 2 rfl (U38 (C := Uv) (i := 0) rfl rfl rfl rfl rfl rfl sl53 S7 rfl) (wlr 3 rfl (U17 rfl rfl rfl) (U5 rfl (nmk [0, 3, 4, 22, 23, 6, 7, 38] rfl (U4 ?_))))))))
     refine Ue Zd9 Zda rfl rfl rfl rfl (fun hb38 => ?_) (fun hb38 => ?_)
     ·have hil : i < l.length := by omega
      have hxm := hin (ga l i) (by rw [U36 hil]; exact List.getElem_mem hil)
      obtain ⟨x, hx⟩ : ∃ x : Nat, ga l i = (x : Int) := ⟨(ga l i).toNat, by omega⟩
      have hxn : x < d.crs.length := by omega
      refine Uf rfl (nmk [0, 3, 4, 22, 23, 6, 7] rfl (U4 (U2 Zdb Zdc rfl rfl rfl (Uc Zdd 3 rfl rfl rfl (U2 Zde Zdf rfl rfl rfl (U1 rfl (mvs 0 1 rfl rfl (U5 rfl ?_))))))))
      refine U4 (Uc Zdg 4 rfl rfl rfl ?_)
      refine U11 (fun mx_ ax_ wx_ => ∃ (k : Nat) (seen3 : List Bool) (l3 : List Int) (vrs3 : Value) (vrl3 : Value), mx_ = 4 - k ∧ Env 74 [(0, .pointer (some ⟨gsh, 0, none⟩)), (3, vrs3), (4, vro), (22, .int .i64 (d.crs.length : Int)), (23, .int .i64 (c : Int)), (6, vrl3), (7, .int .i64 (i : Int)), (41, .int .i64 (k : Int))] ax_ ∧ SH wx_ M1 X [Rs.row Uv vrl3 l3, Rs.row (cdV 53) vro vs, Rs.row U2f vrs3 seen3] ∧ k ≤ 4 ∧ bfsS d x (seen2, l) k = (seen3, l3) ∧ l3.length + free seen3 ≤ d.crs.length ∧ (∀ y, y ∈ l3 → 0 ≤ y ∧ y < (d.crs.length : Int)) ∧ seen3.length = d.crs.length ∧ i < l3.length ∧ ga l3 i = (x : Int)) rfl ?_ ?_
      ·intro ax_ hax_
       refine ⟨_, ⟨0, _, _, _, _, rfl, hax_.sub ⟨rfl, rfl, rfl, rfl, rfl, rfl, rfl, rfl, trivial⟩, S7.pick [0, 1, 2] [_, _, _] (by decide) ⟨rfl, rfl, rfl, trivial⟩, ?hq4f0, ?hq4f1, ?hq4f2, ?hq4f3, ?hq4f4, ?hq4f5, ?hq4f6⟩⟩
       case hq4f0 => omega
       case hq4f1 => rfl
       case hq4f2 => exact hfr
       case hq4f3 => exact hin
       case hq4f4 => exact hs2
       case hq4f5 => omega
       case hq4f6 => exact hx
      ·rintro m3 a3 w6 ⟨k, seen3, l3, vrs3, vrl3, rfl, he3, S8, hk, hbs, hfr3, hin3, hs3, hi3, hx3⟩
       clear S7
       refine U1u he3 (c := Zdh) rfl ?_
       clear he3 a3
       refine U2 Zdi Zdj rfl rfl rfl (U1 rfl (wlr 0 rfl (U17 rfl rfl rfl) (U5 rfl (U4 (U2 Zdk Zdl rfl rfl rfl ?_)))))
       refine Ue Zdm Zdn rfl rfl rfl rfl (fun hb42 => ?_) (fun hb42 => ?_)
       ·refine Uf rfl (nmk [0, 3, 4, 22, 23, 6, 7, 41] rfl (U4 (U2 Zdo Zdp rfl rfl rfl (Uc Zdq 5 rfl rfl rfl (U2 Zdr Zds rfl rfl rfl (U1 rfl (mvs 0 2 rfl rfl (U5 rfl ?_))))))))
        refine nmk [0, 3, 4, 22, 23, 6, 7, 41, 8] rfl (U4 (U2 Zdt Zdu rfl rfl rfl (U1 rfl (mvs 0 3 rfl rfl (wlr 3 rfl (Ui (C := Uv) (i := 0) i rfl rfl rfl sl53 S8 rfl (by first | rfl | omega) (by first | omega | (simp only [ls]; omega))) ?_)))))
        refine wlr 4 rfl (U3 rfl rfl uT3 rfl (S8.rowc (i := 0) (e := i) (j := 0) rfl (by first | omega | (simp only [ls]; omega)) rfl rfl)) ?_
        refine U1t 48 (.int .i64 (x : Int)) rfl (int_eq hx3) ?_
        have hnb := nbC_lt hab (k := k) hxn (by omega)
        refine mvs 5 1 rfl rfl (wlr 6 rfl (run_build (l := [_, _]) rfl rfl st190 rfl rfl) (wlo 7 8 rfl rfl rfl (U20 rfl rfl rfl rfl rfl rfl rfl cf163 S8 (Other_q d x k (hsb.mono S8.Uw) (hsc.mono S8.Uw) (hsi.mono S8.Uw) (hso.mono S8.Uw) (by first | assumption | omega) hab (by omega) (by omega) S8.lend) ?_)))
        rintro _ w7 S9 rfl; clear S8
        refine wlr 8 rfl (U23 rfl rfl uT190 rfl uT3 rfl rfl) (mvs 9 1 rfl rfl (U5 rfl (nmk [0, 3, 4, 22, 23, 6, 7, 41, 9] rfl (U4 (U2 Zdv Zdw rfl rfl rfl (ws_eq 9 (.int .i64 ((nbC d x k : Nat) : Int)) rfl (int_eq rfl) (U1 rfl (mvs 0 2 rfl rfl ?_))))))))
        refine wlr 2 rfl (Ui (C := U2f) (i := 2) (nbC d x k) rfl rfl rfl sl130 S9 rfl (by first | rfl | omega) (by first | omega | (simp only [ls]; omega))) ?_
        refine wlr 3 rfl (U3 rfl rfl uT4 rfl (S9.rowc (i := 2) (e := nbC d x k) (j := 0) rfl (by first | omega | (simp only [ls]; omega)) rfl rfl)) ?_
        refine wlr 4 rfl (U1j rfl rfl) (U5 rfl (nmk [0, 3, 4, 22, 23, 6, 7, 41, 9, 57] rfl (U4 ?_)))
        refine U19 Zdx Zdy rfl rfl rfl rfl (fun hb57 => ?_) (fun hb57 => ?_)
        ·simp only [Bool.and_eq_true, Bool.or_eq_true, Bool.and_eq_false_iff, Bool.or_eq_false_iff, decide_eq_true_eq, decide_eq_false_iff_not, Bool.not_eq_true', Bool.not_eq_false'] at hb57
         have hga : ga seen3 (nbC d x k) = false := by simpa using hb57
         have hfs := U2s (seen := seen3) (x := nbC d x k) (by omega) hga
         refine U2 Zdz Ze0 rfl rfl rfl (U1 rfl (mvs 0 2 rfl rfl (wlr 2 rfl (Ui (C := U2f) (i := 2) (nbC d x k) rfl rfl rfl sl130 S9 rfl (by first | rfl | omega) (by first | omega | (simp only [ls]; omega))) ?_)))
         refine wlo 3 4 rfl rfl rfl (U1i (C := U2f) (i := 2) (e := nbC d x k) (j := 0) (us := [_]) (H' := [_, _, _]) true rfl rfl S9 rfl (by first | omega | (simp only [ls]; omega)) rfl rfl rfl sz4 rfl rfl rfl rfl ?_)
         intro w8 S10; clear S9
         refine U5 rfl (nmk [0, 3, 4, 22, 23, 6, 7, 41, 9] rfl (U4 (U1 rfl (mvs 0 2 rfl rfl (wlo 2 3 rfl rfl rfl (U13 (C := Uv) (l := [_]) rfl rfl rfl rfl sl53 rfl rfl rfl rfl S10 ?_))))))
         intro gb2 w9 S11; clear S10
         refine wlo 3 4 rfl rfl rfl (U1l (C := Uv) (i := 1) (q := 0) ((nbC d x k : Nat) : Int) rfl rfl rfl rfl rfl rfl rfl rfl sl53 S11 rfl rfl rfl (by show (_ + 1) * 8 ≤ _; first | omega | (simp only [ls]; omega)) ?_)
         intro vrl1 w10 S12; clear S11
         have S13 := S12.pick [1, 2, 3] [_, _, _] (by decide) ⟨rfl, rfl, rfl, trivial⟩; clear S12
         refine mvs 4 1 rfl rfl (U5 rfl (U12 (nmk [0, 3, 4, 22, 23, 6, 7, 41] rfl (U4 (U1 rfl (wlr 0 rfl (Ug rfl rfl rfl (by first | omega | (simp only [ls]; omega))) ?_))))))
         refine mvs 1 1 rfl rfl (U5 rfl (U15 ?_))
         intro ax_ hax_
         refine ⟨_, ?hq5m, ⟨k + 1, _, _, _, _, rfl, hax_.sub ⟨rfl, rfl, rfl, rfl, rfl, rfl, rfl, rfl, trivial⟩, S13.pick [0, 1, 2] [_, _, _] (by decide) ⟨rfl, rfl, rfl, trivial⟩, ?hq5f0, ?hq5f1, ?hq5f2, ?hq5f3, ?hq5f4, ?hq5f5, ?hq5f6⟩⟩
         case hq5f0 => omega
         case hq5f1 => (show addS _ _ = _; rw [hbs, addS]; first | rw [if_pos (by assumption)] | rw [if_neg (by rw [hga]; exact Bool.false_ne_true)])
         case hq5f2 => first | exact hfr3 | (rw [List.length_append]; show _ + 1 + _ ≤ _; omega)
         case hq5f3 => first | exact hin3 | (intro y hy; rcases List.mem_append.1 hy with hy | hy; exact hin3 y hy; rw [List.mem_singleton] at hy; subst hy; omega)
         case hq5f4 => first | exact hs3 | (rw [List.length_set]; exact hs3)
         case hq5f5 => first | exact hi3 | (rw [List.length_append]; omega)
         case hq5f6 => first | exact hx3 | (rw [U2h _ _ _ (by omega)]; exact hx3)
         case hq5m => omega
        ·simp only [Bool.and_eq_true, Bool.or_eq_true, Bool.and_eq_false_iff, Bool.or_eq_false_iff, decide_eq_true_eq, decide_eq_false_iff_not, Bool.not_eq_true', Bool.not_eq_false'] at hb57
         refine Uf rfl (U12 (nmk [0, 3, 4, 22, 23, 6, 7, 41] rfl (U4 (U1 rfl (wlr 0 rfl (Ug rfl rfl rfl (by first | omega | (simp only [ls]; omega))) ?_)))))
         refine mvs 1 1 rfl rfl (U5 rfl (U15 ?_))
         intro ax_ hax_
         refine ⟨_, ?hq6m, ⟨k + 1, _, _, _, _, rfl, hax_.sub ⟨rfl, rfl, rfl, rfl, rfl, rfl, rfl, rfl, trivial⟩, S9.pick [0, 1, 2] [_, _, _] (by decide) ⟨rfl, rfl, rfl, trivial⟩, ?hq6f0, ?hq6f1, ?hq6f2, ?hq6f3, ?hq6f4, ?hq6f5, ?hq6f6⟩⟩
         case hq6f0 => omega
         case hq6f1 => (show addS _ _ = _; rw [hbs, addS]; first | rw [if_pos (by assumption)] | rw [if_neg (by rw [hga]; exact Bool.false_ne_true)])
         case hq6f2 => first | exact hfr3 | (rw [List.length_append]; show _ + 1 + _ ≤ _; omega)
         case hq6f3 => first | exact hin3 | (intro y hy; rcases List.mem_append.1 hy with hy | hy; exact hin3 y hy; rw [List.mem_singleton] at hy; subst hy; omega)
         case hq6f4 => first | exact hs3 | (rw [List.length_set]; exact hs3)
         case hq6f5 => first | exact hi3 | (rw [List.length_append]; omega)
         case hq6f6 => first | exact hx3 | (rw [U2h _ _ _ (by omega)]; exact hx3)
         case hq6m => omega
       ·refine U16 rfl rfl (U12 (nmk [0, 3, 4, 22, 23, 6, 7] rfl (U4 (U1 rfl (mvs 0 1 rfl rfl (wlr 1 rfl (Ug rfl rfl rfl (by first | omega | (simp only [ls]; omega))) ?_))))))
        refine mvs 2 1 rfl rfl (U5 rfl (U15 ?_))
        intro ax_ hax_
        refine ⟨_, ?hq7m, ⟨i + 1, _, _, _, _, rfl, hax_.sub ⟨rfl, rfl, rfl, rfl, rfl, rfl, rfl, trivial⟩, S8.pick [0, 1, 2] [_, _, _] (by decide) ⟨rfl, rfl, rfl, trivial⟩, ?hq7f0, ?hq7f1, ?hq7f2, ?hq7f3, ?hq7f4⟩⟩
        case hq7f0 => (rw [hbf, show d.crs.length - i = (d.crs.length - (i + 1)) + 1 by omega]; exact bfsN_go (by show i < l.length; omega) hx (hbs ▸ (by rw [show k = 4 by omega])))
        case hq7f1 => omega
        case hq7f2 => omega
        case hq7f3 => exact hin3
        case hq7f4 => exact hs3
        case hq7m => omega
     ·have hsr := srt_len l
      refine U16 rfl rfl (nmk [0, 3, 4, 22, 23, 6] rfl (U4 (U2 Ze1 Ze2 rfl rfl rfl (U1 rfl (mvs 0 1 rfl rfl (wlo 1 2 rfl rfl rfl (wo_c1 rfl rfl rfl rfl rfl rfl rfl cf143 S7 (i := 0) rfl (sort_w (by omega) (S7.lend1 (i := 0) rfl)) ?_)))))))
      rintro vw11 w11 _ _ - S14 ⟨rfl, rfl, rfl⟩; clear S7
      change SH _ _ _ [_, _, _] at S14
      refine U5 rfl (nmk [0, 3, 4, 22, 23, 6] rfl (U4 (U1 rfl (mvs 0 2 rfl rfl ?_))))
      obtain ⟨M2, hle4, S15, ⟨A1, c1, e1, hr1⟩⟩ := S14.pubrow (i := 0) (H' := [_, _, _]) rfl rfl (by show _ * 8 ≤ _; first | omega | (simp only [ls]; omega))
      clear S14; subst e1
      replace hsb := hsb.mono (Hp.Ua hle4 S15.mx)
      replace hsc := hsc.mono (Hp.Ua hle4 S15.mx)
      replace hsi := hsi.mono (Hp.Ua hle4 S15.mx)
      replace hso := hso.mono (Hp.Ua hle4 S15.mx)
      replace hdo := hdo.mono hle4
      refine wlo 2 3 rfl rfl rfl (U13 (C := (cdV 53)) (l := [_]) rfl rfl rfl rfl sl103 rfl rfl rfl rfl S15 ?_)
      intro gb3 w12 S16; clear S15
      refine wlo 3 4 rfl rfl rfl (U1l (C := (cdV 53)) (i := 2) (q := 0) (⟨A1, (srt l).length, c1⟩ : SlV) rfl rfl rfl rfl rfl rfl rfl rfl sl103 S16 rfl rfl rfl (by show (_ + 1) * 24 ≤ _; first | omega | (simp only [ls]; omega)) ?_)
      intro vro1 w13 S17; clear S16
      have S18 := S17.pick [1, 2, 3] [_, _, _] (by decide) ⟨rfl, rfl, rfl, trivial⟩; clear S17
      have hd1 := hdo.snoc (c := c1) hr1
      refine mvs 4 1 rfl rfl (U5 rfl (U12 (nmk [0, 3, 4, 22, 23] rfl (U4 (U1 rfl (wlr 0 rfl (Ug rfl rfl rfl (by first | omega | (simp only [ls]; omega))) ?_))))))
      refine mvs 1 1 rfl rfl (U5 rfl (U15 ?_))
      intro ax_ hax_
      refine ⟨_, ?hq8m, ⟨c + 1, _, _, (pss ++ [srt l]), _, _, _, (hle1.trans hle4), rfl, hax_.sub ⟨rfl, rfl, rfl, rfl, rfl, trivial⟩, S18.pick [1, 2] [_, _] (by decide) ⟨rfl, rfl, trivial⟩, ?hq8f0, ?hq8f1, ?hq8f2⟩⟩
      case hq8f0 => omega
      case hq8f1 => first | exact pcsN_skip hpn hb29 | exact pcsN_add hpn (by simpa using hb29) (hbf.trans (bfsN_stop (by show l.length ≤ i; omega)))
      case hq8f2 => first | exact hd1 | (rw [e9]; exact hd1)
      case hq8m => omega
  ·refine U16 rfl rfl (nmk [4] rfl (U4 (U2 Ze3 Ze4 rfl rfl rfl (U1 rfl (mvs 0 2 rfl rfl (U5 rfl (nmk [2] rfl (U4 ?_))))))))
   obtain ⟨M3, hle5, S19, ⟨A2, c2, e2, hr2⟩⟩ := S3.pubrow (i := 0) (H' := [_, _]) rfl rfl (by show _ * 24 ≤ _; first | omega | (simp only [ls]; omega))
   clear S3; subst e2
   replace hsb := hsb.mono (Hp.Ua hle5 S19.mx)
   replace hsc := hsc.mono (Hp.Ua hle5 S19.mx)
   replace hsi := hsi.mono (Hp.Ua hle5 S19.mx)
   replace hso := hso.mono (Hp.Ua hle5 S19.mx)
   replace hdo := hdo.mono hle5
   refine Uk hC [_] rfl rfl ⟨rfl, trivial⟩ ?_
   refine ⟨_, rfl, _, hle1.trans hle5, (S19.pick [] [] (by decide) trivial), ?_⟩
   obtain rfl : c = d.crs.length := by omega
   have e2 : pcsL d = pss := by unfold pcsL; rw [hpn]
   rw [e2]
   exact ⟨_, _, _, rfl, hr2, hdo⟩
end Go.Proofs.YthppkofceancjaaGreat
namespace Go.Proofs.YthppkofceancjaaGreat
open Go.ChangeShapes Go.WideShapes Go.ChangeAt Go.RowKit
theorem gs_same {xs : List Bool} {i : Nat} {y : Bool} (h : i < xs.length) : ga (xs.set i y) i = y := by rw [U1y _ _ _ _ h, if_pos rfl]
theorem gs_ne {xs : List Bool} {i j : Nat} {y : Bool} (h : i ≠ j) : ga (xs.set i y) j = ga xs j := by unfold ga; simp [List.getElem?_set, h]
inductive Rc (d : Dg) : Nat → Nat → Prop
 | refl (x : Nat) : Rc d x x
 | step {x y k : Nat} : Rc d x y → k < 4 → Rc d x (nbC d y k)
structure BI (d : Dg) (n : Nat) (s0 : List Bool) (c : Nat) (s : List Bool × List Int) : Prop where
 len : s.1.length = n
 see : ∀ x, x < n → (ga s.1 x = true ↔ (ga s0 x = true ∨ (x : Int) ∈ s.2))
 nod : s.2.Nodup
 el : ∀ y ∈ s.2, ∃ z : Nat, y = (z : Int) ∧ z < n ∧ ga s0 z = false ∧ Rc d c z
 room : s.2.length + free s.1 ≤ n
theorem addS_bi {d : Dg} {n : Nat} {s0 : List Bool} {c : Nat} {s : List Bool × List Int} (h : BI d n s0 c s) {y : Nat} (hy : y < n) (hr : Rc d c y) :
  BI d n s0 c (addS s y) ∧ (∃ t, (addS s y).2 = s.2 ++ t) ∧ ga (addS s y).1 y = true ∧ ∀ x, ga s.1 x = true → ga (addS s y).1 x = true := by
 unfold addS
 by_cases hg : ga s.1 y = true
 ·rw [if_pos hg]
  exact ⟨h, ⟨[], by simp⟩, hg, fun x hx => hx⟩
 ·rw [if_neg hg]
  have hlen := h.len
  have hf : ga s.1 y = false := by simpa using hg
  have hnot : ¬ (ga s0 y = true ∨ (y : Int) ∈ s.2) := fun hh => hg ((h.see y hy).2 hh)
  have hfr := U2s (seen := s.1) (x := y) (by omega) hf
  have hro := h.room
  refine ⟨⟨by simp [hlen], fun x hx => ?_, ?_, fun z hz => ?_, ?_⟩, ⟨[(y : Int)], rfl⟩, ?_, fun x hx => ?_⟩
  ·by_cases e : x = y
   ·subst e
    exact ⟨fun _ => .inr (by simp), fun _ => gs_same (by omega)⟩
   ·show ga (s.1.set y true) x = true ↔ _
    rw [gs_ne (show y ≠ x from fun e' => e e'.symm)]
    rw [h.see x hx, List.mem_append, List.mem_singleton]
    constructor
    ·rintro (h1 | h1)
     ·exact .inl h1
     ·exact .inr (.inl h1)
    ·rintro (h1 | h1 | h1)
     ·exact .inl h1
     ·exact .inr h1
     ·exact absurd (Int.ofNat.inj h1) e
  ·rw [List.nodup_append]
   refine ⟨h.nod, by simp, fun a ha b hb e => ?_⟩
   rw [List.mem_singleton] at hb
   subst hb; subst e
   exact hnot (.inr ha)
  ·rcases List.mem_append.1 hz with hz | hz
   ·exact h.el z hz
   ·rw [List.mem_singleton] at hz
    exact ⟨y, hz, hy, by have := fun e => hnot (.inl e); simpa using this, hr⟩
  ·show (s.2 ++ [(y : Int)]).length + free (s.1.set y true) ≤ n
   rw [List.length_append]
   show s.2.length + 1 + _ ≤ n
   omega
  ·exact gs_same (by omega)
  ·by_cases e : x = y
   ·subst e; exact gs_same (by omega)
   ·show ga (s.1.set y true) x = true
    rw [gs_ne (show y ≠ x from fun e' => e e'.symm)]; exact hx
theorem bfsS_bi {d : Dg} {s0 : List Bool} {c x : Nat} {s : List Bool × List Int} (hab : U1b d = true) (h : BI d d.crs.length s0 c s) (hx : x < d.crs.length) (hr : Rc d c x) (k : Nat) (hk : k ≤ 4) :
  BI d d.crs.length s0 c (bfsS d x s k) ∧ (∃ t, (bfsS d x s k).2 = s.2 ++ t) ∧ (∀ j, j < k → ga (bfsS d x s k).1 (nbC d x j) = true) ∧ ∀ z, ga s.1 z = true → ga (bfsS d x s k).1 z = true := by
 induction k with
 | zero => exact ⟨h, ⟨[], by simp [bfsS]⟩, fun j hj => by omega, fun z hz => hz⟩
 | succ k ih =>
  obtain ⟨h1, ⟨t1, h2⟩, h3, h4⟩ := ih (by omega)
  obtain ⟨g1, ⟨t2, g2⟩, g3, g4⟩ := addS_bi h1 (nbC_lt hab hx (show k < 4 by omega)) (hr.step (show k < 4 by omega))
  refine ⟨g1, ⟨t1 ++ t2, ?_⟩, fun j hj => ?_, fun z hz => g4 z (h4 z hz)⟩
  ·show (addS _ _).2 = _
   rw [g2, h2, List.append_assoc]
  ·by_cases e : j = k
   ·subst e; exact g3
   ·exact g4 _ (h3 j (by omega))
theorem bfsN_bi {d : Dg} {s0 : List Bool} {c : Nat} (hab : U1b d = true) : ∀ (f i : Nat) (s : List Bool × List Int), BI d d.crs.length s0 c s → d.crs.length ≤ i + f → i ≤ s.2.length → (∀ j, j < i → ∀ k, k < 4 → ga s.1 (nbC d (ga s.2 j).toNat k) = true) →
  BI d d.crs.length s0 c (bfsN d f i s) ∧ (∃ t, (bfsN d f i s).2 = s.2 ++ t) ∧ ∀ j, j < (bfsN d f i s).2.length → ∀ k, k < 4 → ga (bfsN d f i s).1 (nbC d (ga (bfsN d f i s).2 j).toNat k) = true := by
 intro f
 induction f with
 | zero =>
  intro i s h hf hi hp
  have := h.room
  exact ⟨h, ⟨[], by simp [bfsN]⟩, fun j hj => hp j (by have hj' : j < s.2.length := hj; omega)⟩
 | succ f ih =>
  intro i s h hf hi hp
  by_cases hlt : i < s.2.length
  ·rw [bfsN, if_pos hlt]
   obtain ⟨z, hz, hzn, _, hrz⟩ := h.el _ (U2m hlt)
   rw [hz, Int.toNat_natCast]
   obtain ⟨h1, ⟨t, h2⟩, h3, h4⟩ := bfsS_bi hab h hzn hrz 4 (Nat.le_refl _)
   obtain ⟨g1, ⟨t', g2⟩, g3⟩ := ih (i + 1) (bfsS d z s 4) h1 (by omega) (by rw [h2, List.length_append]; omega) (fun j hj k hk => by
    rw [h2, U2h _ _ _ (by omega)]
    by_cases e : j = i
    ·subst e; rw [hz, Int.toNat_natCast]; exact h3 k hk
    ·exact h4 _ (hp j (by omega) k hk))
   exact ⟨g1, ⟨t ++ t', by rw [g2, h2, List.append_assoc]⟩, g3⟩
  ·rw [bfsN_stop (by omega)]
   exact ⟨h, ⟨[], by simp⟩, fun j hj => hp j (by omega)⟩
structure PcI (d : Dg) (c : Nat) (s : List Bool × List (List Int)) : Prop where
 see : ∀ x, x < d.crs.length → (ga s.1 x = true ↔ ∃ i, i < s.2.length ∧ (x : Int) ∈ ga s.2 i)
 cov : ∀ x, x < c → ga s.1 x = true
 el : ∀ i, i < s.2.length → (ga s.2 i).Nodup ∧ ∃ c0 : Nat, c0 < d.crs.length ∧ (c0 : Int) ∈ ga s.2 i ∧ ∀ y ∈ ga s.2 i, ∃ z : Nat, y = (z : Int) ∧ z < d.crs.length ∧ Rc d c0 z
 clo : ∀ i, i < s.2.length → ∀ z : Nat, (z : Int) ∈ ga s.2 i → ∀ k, k < 4 → ((nbC d z k : Nat) : Int) ∈ ga s.2 i
 dis : ∀ i j, i < s.2.length → j < s.2.length → ∀ y, y ∈ ga s.2 i → y ∈ ga s.2 j → i = j
theorem pcsN_pi {d : Dg} (hab : U1b d = true) (hsym : ∀ x k, x < d.crs.length → k < 4 → ∃ k', k' < 4 ∧ nbC d (nbC d x k) k' = x) (c : Nat) (hc : c ≤ d.crs.length) : PcI d c (pcsN d c) := by
 induction c with
 | zero =>
  refine ⟨fun x hx => ?_, fun x hx => by omega, fun i hi => ?_, fun i hi => ?_, fun i j hi => ?_⟩
  ·simp only [pcsN]
   rw [ga_rep _ _ _ hx]
   constructor
   ·intro h; cases h
   ·rintro ⟨i, hi, _⟩; exact absurd hi (Nat.not_lt_zero _)
  all_goals exact absurd hi (Nat.not_lt_zero _)
 | succ c ih =>
  have I := ih (by omega)
  have hlen := pcsN_len d c
  generalize hs : pcsN d c = s at I hlen
  obtain ⟨seen, pss⟩ := s
  by_cases hg : ga seen c = true
  ·rw [pcsN_skip hs hg]
   exact ⟨I.see, fun x hx => by by_cases e : x = c; (subst e; exact hg); exact I.cov x (by omega), I.el, I.clo, I.dis⟩
  ·have hgf : ga seen c = false := by simpa using hg
   rw [pcsN_add hs hgf rfl]
   have hlen' : seen.length = d.crs.length := hlen
   have B0 : BI d d.crs.length seen c (seen.set c true, [(c : Int)]) := by
    have hfr := U2s (seen := seen) (x := c) (by omega) hgf
    have hfl : free seen ≤ seen.length := List.countP_le_length
    refine ⟨by simp [hlen'], fun x hx => ?_, by simp, fun y hy => ?_, by show 1 + free (seen.set c true) ≤ _; omega⟩
    ·by_cases e : x = c
     ·subst e; exact ⟨fun _ => .inr (by simp), fun _ => gs_same (by omega)⟩
     ·show ga (seen.set c true) x = true ↔ _
      rw [gs_ne (show c ≠ x from fun e' => e e'.symm)]
      constructor
      ·exact .inl
      ·rintro (h1 | h1)
       ·exact h1
       ·rw [List.mem_singleton] at h1; exact absurd (Int.ofNat.inj h1) e
    ·rw [List.mem_singleton] at hy; exact ⟨c, hy, by omega, hgf, .refl c⟩
   obtain ⟨B1, ⟨t, B2⟩, B3⟩ := bfsN_bi hab d.crs.length 0 _ B0 (by omega) (Nat.zero_le _) (fun j hj => by omega)
   generalize hr : bfsN d d.crs.length 0 (seen.set c true, [(c : Int)]) = r at B1 B2 B3 ⊢
   have hcm : (c : Int) ∈ r.2 := by rw [B2]; simp
   have hnew : ga (pss ++ [srt r.2]) pss.length = srt r.2 := by rw [U32 _ _ _ (Nat.le_refl _), Nat.sub_self]; rfl
   have hold : ∀ i, i < pss.length → ga (pss ++ [srt r.2]) i = ga pss i := fun i hi => U2h _ _ _ hi
   have hL : (pss ++ [srt r.2]).length = pss.length + 1 := by simp
   have hcl : ∀ z : Nat, (z : Int) ∈ r.2 → ∀ k, k < 4 → ((nbC d z k : Nat) : Int) ∈ r.2 := fun z hz k hk => by
    obtain ⟨j, hj, ej⟩ := List.mem_iff_getElem.1 hz
    have h1 := B3 j hj k hk
    rw [U36 hj, ej, Int.toNat_natCast] at h1
    obtain ⟨z', e', hzn, hz0, _⟩ := B1.el _ hz
    obtain rfl : z = z' := by omega
    have hnl := nbC_lt hab hzn hk
    rcases (B1.see _ hnl).1 h1 with h2 | h2
    ·exfalso
     obtain ⟨i, hi, hm⟩ := (I.see _ hnl).1 h2
     obtain ⟨k', hk', e2⟩ := hsym z k hzn hk
     have h3 := I.clo i hi _ hm k' hk'
     rw [e2] at h3
     have h4 := (I.see z hzn).2 ⟨i, hi, h3⟩
     have h5 : ga seen z = true := h4
     rw [hz0] at h5; cases h5
    ·exact h2
   refine ⟨fun x hx => ?_, fun x hx => ?_, fun i hi => ?_, fun i hi => ?_, fun i j hi hj y hy hy' => ?_⟩
   ·show ga r.1 x = true ↔ ∃ i, i < (pss ++ [srt r.2]).length ∧ (x : Int) ∈ ga (pss ++ [srt r.2]) i
    rw [B1.see x hx]
    have hI : ga seen x = true ↔ ∃ i, i < pss.length ∧ (x : Int) ∈ ga pss i := I.see x hx
    rw [hI]
    constructor
    ·rintro (⟨i, hi, hm⟩ | hm)
     ·exact ⟨i, by omega, by rw [hold i hi]; exact hm⟩
     ·exact ⟨pss.length, by omega, by rw [hnew]; exact srt_mem.2 hm⟩
    ·rintro ⟨i, hi, hm⟩
     by_cases e : i < pss.length
     ·rw [hold i e] at hm; exact .inl ⟨i, e, hm⟩
     ·obtain rfl : i = pss.length := by omega
      rw [hnew] at hm; exact .inr (srt_mem.1 hm)
   ·show ga r.1 x = true
    rw [B1.see x (by omega)]
    by_cases e : x = c
    ·subst e; exact .inr hcm
    ·exact .inl (I.cov x (by omega))
   ·show (ga (pss ++ [srt r.2]) i).Nodup ∧ ∃ c0 : Nat, c0 < d.crs.length ∧ (c0 : Int) ∈ ga (pss ++ [srt r.2]) i ∧ ∀ y ∈ ga (pss ++ [srt r.2]) i, _
    have hi' : i < (pss ++ [srt r.2]).length := hi
    by_cases e : i < pss.length
    ·rw [hold i e]; exact I.el i e
    ·obtain rfl : i = pss.length := by omega
     rw [hnew]
     refine ⟨(srt_perm r.2).nodup_iff.2 B1.nod, c, by omega, srt_mem.2 hcm, fun y hy => ?_⟩
     obtain ⟨z, h1, h2, _, h3⟩ := B1.el y (srt_mem.1 hy)
     exact ⟨z, h1, h2, h3⟩
   ·show ∀ z : Nat, (z : Int) ∈ ga (pss ++ [srt r.2]) i → ∀ k, k < 4 → ((nbC d z k : Nat) : Int) ∈ ga (pss ++ [srt r.2]) i
    have hi' : i < (pss ++ [srt r.2]).length := hi
    by_cases e : i < pss.length
    ·rw [hold i e]; exact I.clo i e
    ·obtain rfl : i = pss.length := by omega
     rw [hnew]
     intro z hz k hk
     exact srt_mem.2 (hcl z (srt_mem.1 hz) k hk)
   ·have hi' : i < (pss ++ [srt r.2]).length := hi
    have hj' : j < (pss ++ [srt r.2]).length := hj
    have hy1 : y ∈ ga (pss ++ [srt r.2]) i := hy
    have hy2 : y ∈ ga (pss ++ [srt r.2]) j := hy'
    have key : ∀ i, i < pss.length → y ∈ ga pss i → y ∈ r.2 → False := fun i hi h1 h2 => by
     obtain ⟨z, rfl, hzn, hz0, _⟩ := B1.el y h2
     have h5 : ga seen z = true := (I.see z hzn).2 ⟨i, hi, h1⟩
     rw [hz0] at h5; cases h5
    by_cases e : i < pss.length
    ·rw [hold i e] at hy1
     by_cases e' : j < pss.length
     ·rw [hold j e'] at hy2; exact I.dis i j e e' y hy1 hy2
     ·obtain rfl : j = pss.length := by omega
      rw [hnew] at hy2
      exact (key i e hy1 (srt_mem.1 hy2)).elim
    ·obtain rfl : i = pss.length := by omega
     rw [hnew] at hy1
     by_cases e' : j < pss.length
     ·rw [hold j e'] at hy2
      exact (key j e' hy2 (srt_mem.1 hy1)).elim
     ·omega
end Go.Proofs.YthppkofceancjaaGreat
namespace Go.Proofs.YthppkofceancjaaGreat
open Go.ChangeShapes Go.WideShapes Go.ChangeAt Go.RowKit
theorem U46 {d : Dg} (h : U1b d = true) {c k : Nat} {b : Bool} (hc : c < d.crs.length) (hk : k < 4) (hin : U1k d c k = !b) : Ud d (U1g d c k) b = (c, k) := by
 have hr := U2b h hc hk
 have hcn : cntP d ((U1g d c k).toNat : Nat) b (4 * d.crs.length) = 1 := by
  have := arcsB_out h (U1g d c k).toNat (by omega) (by omega)
  cases b
  ·exact this.1
  ·exact this.2
 rw [show (((U1g d c k).toNat : Nat) : Int) = U1g d c k by omega] at hcn
 obtain ⟨j, j1, j2, j3, j4⟩ := cntP_one hcn
 have hme : endP d (U1g d c k) b (4 * c + k) = true := by rw [endP_at hk]; cases b <;> simp [hin]
 obtain rfl := j3 (4 * c + k) (by omega) hme
 have e := lastP_end hcn
 rw [j4] at e
 rw [← e]
 exact Prod.ext (by dsimp only; omega) (by dsimp only; omega)
theorem endOf_there {d : Dg} (h : U1b d = true) {a : Int} (ha : 1 ≤ a ∧ a ≤ 2 * (d.crs.length : Int)) (b : Bool) : U1g d (Ud d a b).1 (Ud d a b).2 = a ∧ U1k d (Ud d a b).1 (Ud d a b).2 = !b := by
 obtain ⟨_, _, _, h4, h5⟩ := endOf_lt h (a := a.toNat) (by omega) (by omega) b
 rw [show ((a.toNat : Nat) : Int) = a by omega] at h4 h5
 exact ⟨h4, h5⟩
theorem nb_sym {d : Dg} (h : U1b d = true) (x k : Nat) (hx : x < d.crs.length) (hk : k < 4) : ∃ k', k' < 4 ∧ nbC d (nbC d x k) k' = x := by
 have ha := U2b h hx hk
 obtain ⟨h1, h2, _⟩ := endD h ha (U1k d x k)
 obtain ⟨h3, h4⟩ := endOf_there h ha (U1k d x k)
 refine ⟨(Ud d (U1g d x k) (U1k d x k)).2, h2, ?_⟩
 show (Ud d (U1g d (Ud d (U1g d x k) (U1k d x k)).1 (Ud d (U1g d x k) (U1k d x k)).2) (U1k d (Ud d (U1g d x k) (U1k d x k)).1 (Ud d (U1g d x k) (U1k d x k)).2)).1 = x
 rw [h3, h4, U46 h hx hk (by cases U1k d x k <;> rfl)]
theorem pcs {d : Dg} (h : U1b d = true) : PcI d d.crs.length (pcsN d d.crs.length) := pcsN_pi h (nb_sym h) _ (Nat.le_refl _)
def putP (i : Nat) (p : List Int) (es : List (Int × Int)) : Nat → List (Int × Int)
 | 0 => es
 | k + 1 => mp (ga p k) (i : Int) (putP i p es k)
def pmapN (pss : List (List Int)) : Nat → List (Int × Int)
 | 0 => []
 | i + 1 => putP i (ga pss i) (pmapN pss i) (ga pss i).length
theorem putP_mg (i : Nat) (p : List Int) (es : List (Int × Int)) (k : Nat) (hk : k ≤ p.length) (y : Int) : (y ∈ p.take k → mg y (putP i p es k) = some (i : Int)) ∧ (y ∉ p.take k → mg y (putP i p es k) = mg y es) := by
 induction k with
 | zero => exact ⟨fun h => by simp at h, fun _ => rfl⟩
 | succ k ih =>
  have ih := ih (by omega)
  rw [take_ga _ _ (by omega), putP, mg_mp]
  constructor
  ·intro h
   by_cases e : y = ga p k
   ·rw [if_pos e]
   ·rw [if_neg e]
    rcases List.mem_append.1 h with h | h
    ·exact ih.1 h
    ·exact absurd (List.mem_singleton.1 h) e
  ·intro h
   rw [List.mem_append, List.mem_singleton] at h
   rw [if_neg (fun e => h (.inr e))]
   exact ih.2 (fun e => h (.inl e))
theorem pmapN_mg {pss : List (List Int)} (hd : ∀ i j, i < pss.length → j < pss.length → ∀ y, y ∈ ga pss i → y ∈ ga pss j → i = j) (m : Nat) (hm : m ≤ pss.length) {i : Nat} (hi : i < m) {y : Int} (hy : y ∈ ga pss i) : mg y (pmapN pss m) = some (i : Int) := by
 induction m with
 | zero => omega
 | succ m ih =>
  have h := putP_mg m (ga pss m) (pmapN pss m) (ga pss m).length (Nat.le_refl _) y
  rw [List.take_length] at h
  rw [pmapN]
  by_cases e : y ∈ ga pss m
  ·rw [h.1 e, hd i m (by omega) (by omega) y hy e]
  ·rw [h.2 e]
   exact ih (by omega) (by
    rcases Nat.lt_or_ge i m with h1 | h1
    ·exact h1
    ·obtain rfl : i = m := by omega
     exact absurd hy e)
def pmap (d : Dg) : List (Int × Int) := pmapN (pcsL d) (pcsL d).length
def pcI (d : Dg) (x : Nat) : Nat := ((mg (x : Int) (pmap d)).getD 0).toNat
theorem pcI_at {d : Dg} (h : U1b d = true) {i x : Nat} (hi : i < (pcsL d).length) (hx : (x : Int) ∈ ga (pcsL d) i) : mg (x : Int) (pmap d) = some (i : Int) ∧ pcI d x = i := by
 have e := pmapN_mg (pcs h).dis _ (Nat.le_refl _) hi hx
 refine ⟨e, ?_⟩
 unfold pcI
 unfold pmap
 rw [show mg (x : Int) (pmapN (pcsL d) (pcsL d).length) = some (i : Int) from e]
 rfl
theorem pcI_lt {d : Dg} (h : U1b d = true) {x : Nat} (hx : x < d.crs.length) : pcI d x < (pcsL d).length ∧ (x : Int) ∈ ga (pcsL d) (pcI d x) ∧ (mg (x : Int) (pmap d)).getD 0 = (pcI d x : Int) := by
 obtain ⟨i, hi, hm⟩ := ((pcs h).see x hx).1 ((pcs h).cov x hx)
 have hi' : i < (pcsL d).length := hi
 have hm' : (x : Int) ∈ ga (pcsL d) i := hm
 obtain ⟨h1, h2⟩ := pcI_at h hi' hm'
 rw [h2]
 exact ⟨hi', hm', by rw [h1]; rfl⟩
def fcN (d : Dg) : Nat → List Int
 | 0 => List.replicate (pcsL d).length 0
 | k + 1 => (fcN d k).set (pcI d (fcC d k)) (ga (fcN d k) (pcI d (fcC d k)) + 1)
theorem fcN_len (d : Dg) (k : Nat) : (fcN d k).length = (pcsL d).length := by
 induction k with
 | zero => exact List.length_replicate
 | succ k ih => rw [fcN, List.length_set, ih]
theorem fcN_bd (d : Dg) (k j : Nat) : 0 ≤ ga (fcN d k) j ∧ ga (fcN d k) j ≤ k := by
 induction k generalizing j with
 | zero =>
  by_cases h : j < (pcsL d).length
  ·rw [fcN, ga_rep _ _ _ h]; simp
  ·rw [fcN, show ga (List.replicate (pcsL d).length (0 : Int)) j = 0 from by unfold ga; simp [h]]; exact ⟨Int.le_refl _, Int.le_refl _⟩
 | succ k ih =>
  rw [fcN]
  have h1 := ih j
  have h2 := ih (pcI d (fcC d k))
  by_cases e : pcI d (fcC d k) = j
  ·by_cases hl : j < (fcN d k).length
   ·subst e; rw [U1y _ _ _ _ hl, if_pos rfl]; omega
   ·rw [List.set_eq_of_length_le (by omega)]; omega
  ·rw [ga_set_ne _ _ _ _ e]; omega
theorem nodup_le {α : Type} [DecidableEq α] {xs ys : List α} (h : xs.Nodup) (hs : ∀ y ∈ xs, y ∈ ys) : xs.length ≤ ys.length := by
 induction xs generalizing ys with
 | nil => exact Nat.zero_le _
 | cons x xs ih =>
  rw [List.nodup_cons] at h
  have hx := hs x (by simp)
  have h1 := ih h.2 (ys := ys.erase x) (fun y hy => (List.mem_erase_of_ne (fun (e : y = x) => h.1 (by rw [← e]; exact hy))).2 (hs y (by simp [hy])))
  rw [List.length_erase_of_mem hx] at h1
  have := List.length_pos_of_mem hx
  rw [List.length_cons]
  omega
def planP (d : Dg) : Bool := (List.range (pcsL d).length).all fun i => decide (ga (fcN d (U6 d).length) i = ((ga (pcsL d) i).length : Int) + 2)
theorem planP_t {d : Dg} (h : ∀ i, i < (pcsL d).length → ga (fcN d (U6 d).length) i = ((ga (pcsL d) i).length : Int) + 2) : planP d = true := by
 unfold planP
 rw [List.all_eq_true]
 intro p hp
 exact decide_eq_true (h p (List.mem_range.1 hp))
theorem planP_f {d : Dg} {i : Nat} (hi : i < (pcsL d).length) (h : ¬ ga (fcN d (U6 d).length) i = ((ga (pcsL d) i).length : Int) + 2) : planP d = false := by
 unfold planP
 rw [List.all_eq_false]
 exact ⟨i, List.mem_range.2 hi, by simpa using h⟩
theorem pcsL_bd {d : Dg} (h : U1b d = true) {i : Nat} (hi : i < (pcsL d).length) : (ga (pcsL d) i).length ≤ d.crs.length ∧ ∀ y ∈ ga (pcsL d) i, 0 ≤ y ∧ y < (d.crs.length : Int) := by
 obtain ⟨h1, c0, _, _, h2⟩ := (pcs h).el i hi
 have hb : ∀ y ∈ ga (pcsL d) i, 0 ≤ y ∧ y < (d.crs.length : Int) := fun y hy => by obtain ⟨z, rfl, hz, _⟩ := h2 y hy; omega
 refine ⟨?_, hb⟩
 have h3 := nodup_le (ys := (List.range d.crs.length).map fun x : Nat => (x : Int)) h1 (fun y hy => by
  obtain ⟨z, rfl, hz, _⟩ := h2 y hy
  exact List.mem_map.2 ⟨z, List.mem_range.2 hz, rfl⟩)
 rw [List.length_map, List.length_range] at h3
 exact h3
noncomputable def Ze5:=Tryz.f65.body.getD .skip
def Ze6 := cL Ze5
def Ze7 := cR Ze5
def Ze8 := cL Ze7
def Ze9 := cR Ze7
def Zea := cL Ze9
def Zeb := cR Ze9
def Zec := cL Zeb
def Zed := cR Zeb
def Zee := cL Zec
def Zef := cR Zec
def Zeg := cL Zef
def Zeh := cL Zeg
def Zei := cL Zeh
def Zej := cR Zeh
def Zek := cL Zej
def Zel := cR Zej
def Zem := cL Zek
def Zen := cR Zek
def Zeo := cL Zel
def Zep := cR Zel
def Zeq := cL Zeo
def Zer := cL Zeq
def Zes := cR Zeq
def Zet := cL Zes
def Zeu := cR Zes
def Zev := cL Zeu
def Zew := cL Zev
def Zex := cL Zew
def Zey := cR Zew
def Zez := cL Zey
def Zf0 := cR Zey
def Zf1 := cL Zez
def Zf2 := cR Zez
def Zf3 := cL Zf0
def Zf4 := cR Zf0
def Zf5 := cL Zf3
def Zf6 := cL Zf5
def Zf7 := cR Zf5
def Zf8 := cL Zed
def Zf9 := cR Zed
def Zfa := cL Zf9
def Zfb := cR Zf9
def Zfc := cL Zfa
def Zfd := cR Zfa
def Zfe := cL Zfd
def Zff := cL Zfe
def Zfg := cL Zff
def Zfh := cR Zff
def Zfi := cL Zfh
def Zfj := cR Zfh
def Zfk := cL Zfi
def Zfl := cR Zfi
def Zfm := cL Zfj
def Zfn := cR Zfj
def Zfo := cL Zfm
def Zfp := cL Zfo
def Zfq := cR Zfo
def Zfr := cL Zfb
def Zfs := cR Zfb
def Zft := cL Zfr
def Zfu := cR Zfr
def Zfv := cL Zfu
def Zfw := cL Zfv
def Zfx := cL Zfw
def Zfy := cR Zfw
def Zfz := cL Zfy
def Zg0 := cR Zfy
def Zg1 := cL Zfz
def Zg2 := cR Zfz
def Zg3 := cL Zg0
def Zg4 := cR Zg0
def Zg5 := cL Zg3
def Zg6 := cL Zg5
def Zg7 := cR Zg5
def Zg8 := cL Zg7
def Zg9 := cR Zg7
def Zga := cL Zg9
def Zgb := cR Zg9
def Zgc := cL Zga
def Zgd := cR Zga
def Zge := cL Zfs
def Zgf := cR Zfs
set_option maxHeartbeats 1000000 in
set_option maxRecDepth 10000 in
theorem Planar_t {w : World} {M : Hp} {X : Fr} (d : Dg) {gsh : Nat} {cA iA oA : Option Addr} {cc ic oc : Nat} (hsb : BxM (M.un X.h) gsh 70 [.slice cA d.crs.length cc, .int .i64 d.loops, .slice iA (tabL d false (4 * d.crs.length)).length ic, .slice oA (tabL d true (4 * d.crs.length)).length oc]) (hsc : RdA cdCr (M.un X.h) cA cc d.crs) (hsi : RdA cdPl (M.un X.h) iA ic (tabL d false (4 * d.crs.length))) (hso : RdA cdPl (M.un X.h) oA oc (tabL d true (4 * d.crs.length))) (hn : d.crs.length ≤ 16) (hab : U1b d = true) (S : SH w M X []) : Ct Tryz.prog 65 [.pointer (some ⟨gsh, 0, none⟩)] w M X (fun u _ => u = .bool (planP d)) := by
 unfold Ct
 refine Uo (b := Ze5) Tryz.func65 rfl Tryz.ntmps65 rfl (fun C hC => (U14 [(0, _)] ⟨rfl, trivial⟩ (U2 Ze6 Ze7 rfl rfl rfl (U1 rfl (mvs 0 1 rfl rfl (U5 rfl (nmk [0] rfl (U4 (U2 Ze8 Ze9 rfl rfl rfl ?_)))))))))
 refine U1 rfl (wlo 0 1 rfl rfl rfl (U3g Int Int (Value.int .i64) (Value.int .i64) rfl rfl rfl S ?_))
 intro gm1 w1 S1; clear S
 refine mvs 1 1 rfl rfl (U5 rfl (nmk [0, 3] rfl (U4 (U2 Zea Zeb rfl rfl rfl (U1 rfl (mvs 0 1 rfl rfl (wlo 1 2 rfl rfl rfl (U2w rfl rfl rfl rfl rfl rfl rfl cf105 S1 (Pieces_t d (hsb.mono S1.Uw) (hsc.mono S1.Uw) (hsi.mono S1.Uw) (hso.mono S1.Uw) hn hab S1.lend) ?_))))))))
 intro vw2 w2 M1 hle1 S2 hRw2; clear S1
 replace hsb := hsb.mono (Hp.Ua hle1 S2.mx)
 replace hsc := hsc.mono (Hp.Ua hle1 S2.mx)
 replace hsi := hsi.mono (Hp.Ua hle1 S2.mx)
 replace hso := hso.mono (Hp.Ua hle1 S2.mx)
 obtain ⟨A1, c1, vs1, rfl, hr1, hd1⟩ := hRw2
 have hlenpcsL := hd1.1
 refine mvs 2 1 rfl rfl (U5 rfl (nmk [0, 3, 4] rfl (U4 (U2 Zec Zed rfl rfl rfl (U2 Zee Zef rfl rfl rfl (U1 rfl (mvs 0 1 rfl rfl (wlr 1 rfl (U1f rfl rfl rfl rfl rfl rfl uT103) ?_))))))))
 refine mvs 2 1 rfl rfl (U5 rfl (U4 (Uc Zeg 0 rfl rfl rfl ?_)))
 refine U11 (fun mx_ ax_ wx_ => ∃ (i : Nat) (es : List (Int × Int)), mx_ = (pcsL d).length - i ∧ Env 75 [(0, .pointer (some ⟨gsh, 0, none⟩)), (3, .map (some gm1)), (4, .slice A1 vs1.length c1), (17, .slice A1 vs1.length c1), (18, .int .i64 (vs1.length : Int)), (19, .int .i64 (i : Int))] ax_ ∧ SH wx_ M1 X [Rs.mp (Value.int .i64) (Value.int .i64) gm1 es] ∧ i ≤ (pcsL d).length ∧ es = pmapN (pcsL d) i) rfl ?_ ?_
 ·intro ax_ hax_
  refine ⟨_, ⟨0, [], rfl, hax_.sub ⟨rfl, rfl, rfl, rfl, rfl, rfl, trivial⟩, S2.pick [0] [_] (by decide) ⟨rfl, trivial⟩, ?hq1f0, ?hq1f1⟩⟩
  case hq1f0 => omega
  case hq1f1 => rfl
 ·rintro m2 a1 w3 ⟨i, es, rfl, he1, S3, hi, hes⟩
  clear S2
  refine U1u he1 (c := Zeh) rfl ?_
  clear he1 a1
  have hpl := pcsN_many d d.crs.length
  replace hpl : (pcsL d).length ≤ d.crs.length := hpl
  refine U2 Zei Zej rfl rfl rfl (U1 rfl (wlr 0 rfl (U17 rfl rfl rfl) (U5 rfl (U4 (U2 Zek Zel rfl rfl rfl ?_)))))
  refine Ue Zem Zen rfl rfl rfl rfl (fun hb20 => ?_) (fun hb20 => ?_)
  ·refine Uf rfl (nmk [0, 3, 4, 17, 18, 19] rfl (U4 (U2 Zeo Zep rfl rfl rfl (Uc Zeq 1 rfl rfl rfl (U2 Zer Zes rfl rfl rfl (U1 rfl (mvs 0 1 rfl rfl (wlr 1 rfl (Uj (C := (cdV 53)) i rfl rfl rfl sl103 (by first | rfl | omega) hr1 (by first | omega | (simp only [ls]; omega))) ?_))))))))
   obtain ⟨hn1, hr2⟩ := hd1.2 i (by first | omega | (simp only [ls]; omega))
   have rmhr2 : (ga (pcsL d) i).length * 8 ≤ 140737488355328 := hr2.room
   refine wlr 2 rfl (U3 rfl rfl uT53 rfl (hr1.cell S3.m (i := i) (by first | omega | (simp only [ls]; omega)) 0 rfl (congrArg (fun n => some (Value.slice _ n _)) hn1))) ?_
   refine mvs 3 2 rfl rfl (U5 rfl (nmk [0, 3, 4, 17, 18, 19, 5, 6] rfl (U4 (U2 Zet Zeu rfl rfl rfl (U1 rfl (mvs 0 1 rfl rfl (wlr 1 rfl (U1f rfl rfl rfl rfl rfl rfl uT53) (mvs 2 1 rfl rfl ?_))))))))
   refine U5 rfl (nmk [0, 3, 4, 17, 18, 19, 5, 24, 25, 26] rfl (U4 (Uc Zev 2 rfl rfl rfl ?_)))
   refine U11 (fun mx_ ax_ wx_ => ∃ (k : Nat) (es2 : List (Int × Int)), mx_ = (ga (pcsL d) i).length - k ∧ Env 75 [(0, .pointer (some ⟨gsh, 0, none⟩)), (3, .map (some gm1)), (4, .slice A1 vs1.length c1), (17, .slice A1 vs1.length c1), (18, .int .i64 (vs1.length : Int)), (19, .int .i64 (i : Int)), (5, .int .i64 (i : Int)), (24, .slice ((ga vs1 i).A) (ga (pcsL d) i).length ((ga vs1 i).c)), (25, .int .i64 ((ga (pcsL d) i).length : Int)), (26, .int .i64 (k : Int))] ax_ ∧ SH wx_ M1 X [Rs.mp (Value.int .i64) (Value.int .i64) gm1 es2] ∧ k ≤ (ga (pcsL d) i).length ∧ es2 = putP i (ga (pcsL d) i) es k) rfl ?_ ?_
   ·intro ax_ hax_
    refine ⟨_, ⟨0, es, rfl, hax_.sub ⟨rfl, rfl, rfl, rfl, rfl, rfl, rfl, rfl, rfl, rfl, trivial⟩, S3.pick [0] [_] (by decide) ⟨rfl, trivial⟩, ?hq2f0, ?hq2f1⟩⟩
    case hq2f0 => omega
    case hq2f1 => rfl
   ·rintro m3 a2 w4 ⟨k, es2, rfl, he2, S4, hk, hes2⟩
    clear S3
    refine U1u he2 (c := Zew) rfl ?_
    clear he2 a2
    have hpb := pcsL_bd hab (i := i) (by omega)
    refine U2 Zex Zey rfl rfl rfl (U1 rfl (wlr 0 rfl (U17 rfl rfl rfl) (U5 rfl (U4 (U2 Zez Zf0 rfl rfl rfl ?_)))))
    refine Ue Zf1 Zf2 rfl rfl rfl rfl (fun hb27 => ?_) (fun hb27 => ?_)
    ·refine Uf rfl (nmk [0, 3, 4, 17, 18, 19, 5, 24, 25, 26] rfl (U4 (U2 Zf3 Zf4 rfl rfl rfl (Uc Zf5 3 rfl rfl rfl (U2 Zf6 Zf7 rfl rfl rfl (U1 rfl (wlr 0 rfl (Uj (C := Uv) k rfl rfl rfl sl53 (by first | rfl | omega) hr2 (by first | omega | (simp only [ls]; omega))) ?_)))))))
     refine wlr 1 rfl (U3 rfl rfl uT3 rfl (hr2.cell S4.m (i := k) (by first | omega | (simp only [ls]; omega)) 0 rfl rfl)) ?_
     refine mvs 2 1 rfl rfl (U5 rfl (nmk [0, 3, 4, 17, 18, 19, 5, 24, 25, 26, 8] rfl (U4 (U1 rfl (mvs 0 3 rfl rfl (wlo 3 4 rfl rfl rfl (U1s (kc := Value.int .i64) (vc := Value.int .i64) (es := es2) (k := (ga (ga (pcsL d) i) k)) (e := (i : Int)) (i := 0) (H' := [_]) (.inl rfl) rfl S4 rfl rfl rfl rfl uT98 mk3 rfl ?_)))))))
     intro w5 S5; clear S4
     refine U5 rfl (U12 (nmk [0, 3, 4, 17, 18, 19, 5, 24, 25, 26] rfl (U4 (U1 rfl (wlr 0 rfl (Ug rfl rfl rfl (by first | omega | (simp only [ls]; omega))) ?_)))))
     refine mvs 1 1 rfl rfl (U5 rfl (U15 ?_))
     intro ax_ hax_
     refine ⟨_, ?hq3m, ⟨k + 1, _, rfl, hax_.sub ⟨rfl, rfl, rfl, rfl, rfl, rfl, rfl, rfl, rfl, rfl, trivial⟩, S5.pick [0] [_] (by decide) ⟨rfl, trivial⟩, ?hq3f0, ?hq3f1⟩⟩
     case hq3f0 => omega
     case hq3f1 => (rw [hes2]; rfl)
     case hq3m => omega
    ·refine U16 rfl rfl (U12 (nmk [0, 3, 4, 17, 18, 19] rfl (U4 (U1 rfl (wlr 0 rfl (Ug rfl rfl rfl (by first | omega | (simp only [ls]; omega))) ?_)))))
     refine mvs 1 1 rfl rfl (U5 rfl (U15 ?_))
     intro ax_ hax_
     refine ⟨_, ?hq4m, ⟨i + 1, _, rfl, hax_.sub ⟨rfl, rfl, rfl, rfl, rfl, rfl, trivial⟩, S4.pick [0] [_] (by decide) ⟨rfl, trivial⟩, ?hq4f0, ?hq4f1⟩⟩
     case hq4f0 => omega
     case hq4f1 => (obtain rfl : k = (ga (pcsL d) i).length := (by omega); rw [hes2, hes]; rfl)
     case hq4m => omega
  ·have hesd : es = pmap d := by rw [hes, show i = (pcsL d).length by omega]; rfl
   have hpl0 := pcsN_many d d.crs.length
   replace hpl0 : (pcsL d).length ≤ d.crs.length := hpl0
   refine U16 rfl rfl (nmk [0, 3, 4] rfl (U4 (U2 Zf8 Zf9 rfl rfl rfl (U1 rfl (mvs 0 1 rfl rfl (wlr 1 rfl (U1f rfl rfl rfl rfl rfl rfl uT103) (wlo 2 3 rfl rfl rfl (wo_make (C := Uv) vs1.length rfl rfl rfl rfl rfl sl53 (by first | rfl | omega) (by show _ * 8 ≤ _; first | omega | (simp only [ls]; omega)) S3 ?_))))))))
   intro vr1 w6 S6; clear S3
   refine mvs 3 1 rfl rfl (U5 rfl (nmk [0, 3, 4, 9] rfl (U4 (U2 Zfa Zfb rfl rfl rfl (U2 Zfc Zfd rfl rfl rfl (U1 rfl (mvs 0 1 rfl rfl (wlo 1 2 rfl rfl rfl (U2w rfl rfl rfl rfl rfl rfl rfl cf66 S6 (InF.Faces_t d (hsb.mono S6.Uw) (hsc.mono S6.Uw) (hsi.mono S6.Uw) (hso.mono S6.Uw) hn hab S6.lend) ?_)))))))))
   intro vw7 w7 M2 hle4 S7 hRw7; clear S6
   replace hsb := hsb.mono (Hp.Ua hle4 S7.mx)
   replace hsc := hsc.mono (Hp.Ua hle4 S7.mx)
   replace hsi := hsi.mono (Hp.Ua hle4 S7.mx)
   replace hso := hso.mono (Hp.Ua hle4 S7.mx)
   replace hr1 := hr1.mono hle4
   replace hd1 := hd1.mono hle4
   obtain ⟨A2, c2, vs2, rfl, hr3, hd2⟩ := hRw7
   have hlenfacesL := hd2.1
   refine wlr 2 rfl (U1f rfl rfl rfl rfl rfl rfl uT65) (mvs 3 1 rfl rfl (U5 rfl (nmk [0, 3, 4, 9, 39, 40, 41] rfl (U4 (Uc Zfe 4 rfl rfl rfl ?_)))))
   refine U11 (fun mx_ ax_ wx_ => ∃ (k : Nat) (fs : List Int) (vrf : Value), mx_ = (U6 d).length - k ∧ Env 75 [(0, .pointer (some ⟨gsh, 0, none⟩)), (3, .map (some gm1)), (4, .slice A1 vs1.length c1), (9, vrf), (39, .slice A2 vs2.length c2), (40, .int .i64 (vs2.length : Int)), (41, .int .i64 (k : Int))] ax_ ∧ SH wx_ M2 X [Rs.row Uv vrf fs, Rs.mp (Value.int .i64) (Value.int .i64) gm1 es] ∧ k ≤ (U6 d).length ∧ fs = fcN d k) rfl ?_ ?_
   ·intro ax_ hax_
    refine ⟨_, ⟨0, _, _, rfl, hax_.sub ⟨rfl, rfl, rfl, rfl, rfl, rfl, rfl, trivial⟩, S7.pick [0, 1] [_, _] (by decide) ⟨rfl, rfl, trivial⟩, ?hq5f0, ?hq5f1⟩⟩
    case hq5f0 => omega
    case hq5f1 => (rw [hlenpcsL]; rfl)
   ·rintro m4 a3 w8 ⟨k, fs, vrf, rfl, he3, S8, hk, hfs⟩
    clear S7
    refine U1u he3 (c := Zff) rfl ?_
    clear he3 a3
    have hfm := facesL_many d
    have hfl2 : fs.length = (pcsL d).length := by rw [hfs, fcN_len]
    refine U2 Zfg Zfh rfl rfl rfl (U1 rfl (wlr 0 rfl (U17 rfl rfl rfl) (U5 rfl (U4 (U2 Zfi Zfj rfl rfl rfl ?_)))))
    refine Ue Zfk Zfl rfl rfl rfl rfl (fun hb42 => ?_) (fun hb42 => ?_)
    ·obtain ⟨hh0, hok⟩ := hd0_ok (d := d) (k := k) (by omega)
     have hfc := fcC_lt hab (k := k) (by omega)
     have hpi := pcI_lt hab hfc
     obtain ⟨hpi1, hpi2, hpi3⟩ := hpi
     rw [← hesd] at hpi3
     have hfb := fcN_bd d k (pcI d (fcC d k))
     rw [← hfs] at hfb
     refine Uf rfl (nmk [0, 3, 4, 9, 39, 40, 41] rfl (U4 (U2 Zfm Zfn rfl rfl rfl (Uc Zfo 5 rfl rfl rfl (U2 Zfp Zfq rfl rfl rfl (U1 rfl (wlr 0 rfl (Uj (C := (cdV 141)) k rfl rfl rfl sl65 (by first | rfl | omega) hr3 (by first | omega | (simp only [ls]; omega))) ?_)))))))
     obtain ⟨hn2, hr4⟩ := hd2.2 k (by first | omega | (simp only [ls]; omega))
     have rmhr4 : (ga (U6 d) k).length * 16 ≤ 140737488355328 := hr4.room
     refine wlr 1 rfl (U3 rfl rfl uT141 rfl (hr3.cell S8.m (i := k) (by first | omega | (simp only [ls]; omega)) 0 rfl (congrArg (fun n => some (Value.slice _ n _)) hn2))) ?_
     refine mvs 2 1 rfl rfl (U5 rfl (nmk [0, 3, 4, 9, 39, 40, 41, 11] rfl (U4 (U1 rfl (mvs 0 4 rfl rfl (wlr 4 rfl (Uj (C := cdDa) 0 rfl rfl rfl sl141 (by first | rfl | omega) hr4 (by first | omega | (simp only [ls]; omega))) ?_))))))
     refine wlr 5 rfl (U8 (us := [_, _]) rfl rfl uT26 rfl sz26 (hr4.U1x S8.m (e := 0) (by first | omega | (simp only [ls]; omega)) (j := 0) ⟨rfl, rfl, trivial⟩)) ?_
     refine wlo 6 7 rfl rfl rfl (U20 rfl rfl rfl rfl rfl rfl rfl cf106 S8 (Head_q d (ga (ga (U6 d) k) 0) (hsb.mono S8.Uw) (hsc.mono S8.Uw) (hsi.mono S8.Uw) (hso.mono S8.Uw) (by first | assumption | omega) hab (by first | assumption | omega) S8.lend) ?_)
     rintro _ w9 S9 rfl; clear S8
     refine wlr 7 rfl (U23 rfl rfl uT190 rfl uT3 rfl rfl) (wlr 8 rfl (U3h (kc := Value.int .i64) (vc := Value.int .i64) (es := es) (k := ((Ud d (ga (ga (U6 d) k) 0).a (ga (ga (U6 d) k) 0).b).1 : Int)) (zv := 0) (i := 1) rfl rfl rfl uT98 mk3 zr3 S9 rfl) (U1t 53 (.int .i64 (pcI d (fcC d k) : Int)) rfl (int_eq hpi3) (wlr 9 rfl (Ui (C := Uv) (i := 0) (pcI d (fcC d k)) rfl rfl rfl sl53 S9 rfl (by first | rfl | omega) (by first | omega | (simp only [ls]; omega))) ?_)))
     refine wlr 10 rfl (U3 rfl rfl uT3 rfl (S9.rowc (i := 0) (e := pcI d (fcC d k)) (j := 0) rfl (by first | omega | (simp only [ls]; omega)) rfl rfl)) ?_
     refine wlr 11 rfl (Ug rfl rfl rfl (by first | omega | (simp only [ls]; omega))) ?_
     refine wlr 12 rfl (Ui (C := Uv) (i := 0) (pcI d (fcC d k)) rfl rfl rfl sl53 S9 rfl (by first | rfl | omega) (by first | omega | (simp only [ls]; omega))) ?_
     refine wlo 13 14 rfl rfl rfl (U1i (C := Uv) (i := 0) (e := pcI d (fcC d k)) (j := 0) (us := [_]) (H' := [_, _]) ((ga fs (pcI d (fcC d k))) + 1) rfl rfl S9 rfl (by first | omega | (simp only [ls]; omega)) rfl rfl rfl sz3 rfl rfl rfl rfl ?_)
     intro w10 S10; clear S9
     refine U5 rfl (U12 (nmk [0, 3, 4, 9, 39, 40, 41] rfl (U4 (U1 rfl (wlr 0 rfl (Ug rfl rfl rfl (by first | omega | (simp only [ls]; omega))) ?_)))))
     refine mvs 1 1 rfl rfl (U5 rfl (U15 ?_))
     intro ax_ hax_
     refine ⟨_, ?hq6m, ⟨k + 1, _, _, rfl, hax_.sub ⟨rfl, rfl, rfl, rfl, rfl, rfl, rfl, trivial⟩, S10.pick [0, 1] [_, _] (by decide) ⟨rfl, rfl, trivial⟩, ?hq6f0, ?hq6f1⟩⟩
     case hq6f0 => omega
     case hq6f1 => (rw [hfs]; rfl)
     case hq6m => omega
    ·have hfs3 : fs = fcN d (U6 d).length := by rw [hfs, show k = (U6 d).length by omega]
     refine U16 rfl rfl (nmk [4, 9] rfl (U4 (U2 Zfr Zfs rfl rfl rfl (U2 Zft Zfu rfl rfl rfl (U1 rfl (mvs 0 1 rfl rfl (wlr 1 rfl (U1f rfl rfl rfl rfl rfl rfl uT103) (mvs 2 1 rfl rfl ?_))))))))
     refine U5 rfl (nmk [9, 59, 60, 61] rfl (U4 (Uc Zfv 6 rfl rfl rfl ?_)))
     refine U11 (fun mx_ ax_ wx_ => ∃ (j : Nat), mx_ = (pcsL d).length - j ∧ Env 75 [(9, vrf), (59, .slice A1 vs1.length c1), (60, .int .i64 (vs1.length : Int)), (61, .int .i64 (j : Int))] ax_ ∧ SH wx_ M2 X [Rs.row Uv vrf fs] ∧ j ≤ (pcsL d).length ∧ (∀ q, q < j → ga fs q = ((ga (pcsL d) q).length : Int) + 2)) rfl ?_ ?_
     ·intro ax_ hax_
      refine ⟨_, ⟨0, rfl, hax_.sub ⟨rfl, rfl, rfl, rfl, trivial⟩, S8.pick [0] [_] (by decide) ⟨rfl, trivial⟩, ?hq7f0, ?hq7f1⟩⟩
      case hq7f0 => omega
      case hq7f1 => (intro q hq; omega)
     ·rintro m5 a4 w11 ⟨j, rfl, he4, S11, hj, hall⟩
      clear S8
      refine U1u he4 (c := Zfw) rfl ?_
      clear he4 a4
      have hpl := pcsN_many d d.crs.length
      replace hpl : (pcsL d).length ≤ d.crs.length := hpl
      have hfl2 : fs.length = (pcsL d).length := by rw [hfs3, fcN_len]
      refine U2 Zfx Zfy rfl rfl rfl (U1 rfl (wlr 0 rfl (U17 rfl rfl rfl) (U5 rfl (U4 (U2 Zfz Zg0 rfl rfl rfl ?_)))))
      refine Ue Zg1 Zg2 rfl rfl rfl rfl (fun hb62 => ?_) (fun hb62 => ?_)
      ·have hpb := pcsL_bd hab (i := j) (by omega)
       refine Uf rfl (nmk [9, 59, 60, 61] rfl (U4 (U2 Zg3 Zg4 rfl rfl rfl (Uc Zg5 7 rfl rfl rfl (U2 Zg6 Zg7 rfl rfl rfl (U1 rfl (mvs 0 1 rfl rfl (wlr 1 rfl (Uj (C := (cdV 53)) j rfl rfl rfl sl103 (by first | rfl | omega) hr1 (by first | omega | (simp only [ls]; omega))) ?_))))))))
       obtain ⟨hn3, hr5⟩ := hd1.2 j (by first | omega | (simp only [ls]; omega))
       have rmhr5 : (ga (pcsL d) j).length * 8 ≤ 140737488355328 := hr5.room
       refine wlr 2 rfl (U3 rfl rfl uT53 rfl (hr1.cell S11.m (i := j) (by first | omega | (simp only [ls]; omega)) 0 rfl (congrArg (fun n => some (Value.slice _ n _)) hn3))) ?_
       refine mvs 3 2 rfl rfl (U5 rfl (nmk [9, 59, 60, 61, 12, 13] rfl (U4 (U2 Zg8 Zg9 rfl rfl rfl (U1 rfl (mvs 0 2 rfl rfl (wlr 2 rfl (Ui (C := Uv) (i := 0) j rfl rfl rfl sl53 S11 rfl (by first | rfl | omega) (by first | omega | (simp only [ls]; omega))) ?_)))))))
       refine wlr 3 rfl (U3 rfl rfl uT3 rfl (S11.rowc (i := 0) (e := j) (j := 0) rfl (by first | omega | (simp only [ls]; omega)) rfl rfl)) ?_
       refine mvs 4 1 rfl rfl (wlr 5 rfl (U1f rfl rfl rfl rfl rfl rfl uT53) (wlr 6 rfl (Ug rfl rfl rfl (by first | omega | (simp only [ls]; omega))) ?_))
       refine wlr 7 rfl (U2k rfl rfl rfl) (U5 rfl (nmk [9, 59, 60, 61, 73] rfl (U4 ?_)))
       refine Ue Zga Zgb rfl rfl rfl rfl (fun hb73 => ?_) (fun hb73 => ?_)
       ·refine U2 Zgc Zgd rfl rfl rfl (U1 rfl (mvs 0 1 rfl rfl (U5 rfl (nmk [2] rfl (U4 (Uk hC [_] rfl rfl ⟨rfl, trivial⟩ ?_))))))
        refine ⟨_, rfl, _, hle1.trans hle4, (S11.pick [] [] (by decide) trivial), ?_⟩
        refine congrArg Value.bool (planP_f (i := j) (by omega) ?_).symm
        rw [← hfs3]; omega
       ·refine Uf rfl (U12 (nmk [9, 59, 60, 61] rfl (U4 (U1 rfl (wlr 0 rfl (Ug rfl rfl rfl (by first | omega | (simp only [ls]; omega))) ?_)))))
        refine mvs 1 1 rfl rfl (U5 rfl (U15 ?_))
        intro ax_ hax_
        refine ⟨_, ?hq8m, ⟨j + 1, rfl, hax_.sub ⟨rfl, rfl, rfl, rfl, trivial⟩, S11.pick [0] [_] (by decide) ⟨rfl, trivial⟩, ?hq8f0, ?hq8f1⟩⟩
        case hq8f0 => omega
        case hq8f1 => (intro q hq; by_cases h : q = j; (subst h; omega); exact hall q (by omega))
        case hq8m => omega
      ·refine U16 rfl rfl (U1a [] trivial (U4 (U2 Zge Zgf rfl rfl rfl (U1 rfl (mvs 0 1 rfl rfl (U5 rfl (U4 (Uk hC [_] rfl rfl ⟨rfl, trivial⟩ ?_))))))))
       refine ⟨_, rfl, _, hle1.trans hle4, (S11.pick [] [] (by decide) trivial), ?_⟩
       exact congrArg Value.bool (planP_t (d := d) (fun q hq => by rw [← hfs3]; exact hall q (by omega))).symm
end Go.Proofs.YthppkofceancjaaGreat
namespace Go.Proofs.YthppkofceancjaaGreat
open Go.ChangeShapes Go.WideShapes Go.ChangeAt Go.RowKit
def U3t (e1 e2 : Nat → Nat) (ws : List Int) : Nat → List Int
 | 0 => ws
 | k + 1 => stepW (U3t e1 e2 ws k) (e1 k) (e2 k)
def cn (P : Nat → Bool) : Nat → Nat
 | 0 => 0
 | k + 1 => cn P k + (if P k = true then 1 else 0)
theorem cn_le (P : Nat → Bool) (k : Nat) : cn P k ≤ k := by
 induction k with
 | zero => exact Nat.le_refl _
 | succ k ih => rw [cn]; split <;> omega
theorem cn_mono {P Q : Nat → Bool} (k : Nat) (h : ∀ x, x < k → P x = true → Q x = true) : cn P k ≤ cn Q k := by
 induction k with
 | zero => exact Nat.le_refl _
 | succ k ih =>
  have := ih (fun x hx => h x (by omega))
  rw [cn, cn]
  by_cases hp : P k = true
  ·rw [if_pos hp, if_pos (h k (by omega) hp)]; omega
  ·rw [if_neg hp]; omega
theorem cn_lt {P Q : Nat → Bool} (k : Nat) (h : ∀ x, x < k → P x = true → Q x = true) {x : Nat} (hx : x < k) (hq : Q x = true) (hp : P x = false) : cn P k < cn Q k := by
 induction k with
 | zero => omega
 | succ k ih =>
  rw [cn, cn]
  by_cases e : x = k
  ·subst e
   have := cn_mono x (P := P) (Q := Q) (fun y hy => h y (by omega))
   rw [if_pos hq, if_neg (by rw [hp]; exact Bool.false_ne_true)]; omega
  ·have := ih (fun y hy => h y (by omega)) (by omega)
   by_cases hp' : P k = true
   ·rw [if_pos hp', if_pos (h k (by omega) hp')]; omega
   ·rw [if_neg hp']; omega
theorem cn_all {P : Nat → Bool} (k : Nat) (h : k ≤ cn P k) : ∀ x, x < k → P x = true := by
 induction k with
 | zero => intro x hx; omega
 | succ k ih =>
  rw [cn] at h
  have hl := cn_le P k
  by_cases hp : P k = true
  ·intro x hx
   by_cases e : x = k
   ·subst e; exact hp
   ·rw [if_pos hp] at h; exact ih (by omega) x (by omega)
  ·rw [if_neg hp] at h; omega
theorem least {P : Nat → Prop} (y : Nat) (h : P y) : ∃ z, P z ∧ ∀ u, P u → z ≤ u := by
 induction y using Nat.strongRecOn with
 | _ y ih =>
  by_cases hs : ∃ u, u < y ∧ P u
  ·obtain ⟨u, hu, hp⟩ := hs
   exact ih u hu hp
  ·exact ⟨y, h, fun u hu => by
    rcases Nat.lt_or_ge u y with h1 | h1
    ·exact absurd ⟨u, h1, hu⟩ hs
    ·exact h1⟩
def LabOk (N : Nat) (cl : Nat → Nat) (ws : List Int) : Prop := ws.length = N ∧ ∀ x, x < N → ∃ z : Nat, z < N ∧ ga ws x = (z : Int) ∧ cl z = cl x
theorem stepW_ok {N : Nat} {cl : Nat → Nat} {ws : List Int} (h : LabOk N cl ws) {x y : Nat} (hx : x < N) (hy : y < N) (hc : cl x = cl y) : LabOk N cl (stepW ws x y) := by
 refine ⟨by rw [stepW_len]; exact h.1, fun z hz => ?_⟩
 have hl := h.1
 unfold stepW
 split
 ·rw [U1y _ _ _ _ (by omega)]
  split
  ·rename_i e; subst e
   obtain ⟨u, h1, h2, h3⟩ := h.2 x hx
   exact ⟨u, h1, h2, h3.trans hc⟩
  ·exact h.2 z hz
 ·rw [U1y _ _ _ _ (by omega)]
  split
  ·rename_i e; subst e
   obtain ⟨u, h1, h2, h3⟩ := h.2 y hy
   exact ⟨u, h1, h2, h3.trans hc.symm⟩
  ·exact h.2 z hz
theorem stepW_good {N : Nat} {cl : Nat → Nat} {m : Nat → Nat} (hm : ∀ x, x < N → ∀ y, y < N → cl y = cl x → m x ≤ y) (hmc : ∀ x y, x < N → y < N → cl x = cl y → m x = m y) {ws : List Int} (h : LabOk N cl ws) {x y : Nat} (hx : x < N) (hy : y < N) (hc : cl x = cl y) :
  (∀ z, z < N → ga ws z = (m z : Int) → ga (stepW ws x y) z = (m z : Int)) ∧ (ga ws x = (m x : Int) ∨ ga ws y = (m y : Int) → ga (stepW ws x y) x = (m x : Int) ∧ ga (stepW ws x y) y = (m y : Int)) := by
 have hl := h.1
 have hmm := hmc x y hx hy hc
 obtain ⟨u, u1, u2, u3⟩ := h.2 x hx
 obtain ⟨v, v1, v2, v3⟩ := h.2 y hy
 have b1 := hm x hx u u1 u3
 have b2 := hm y hy v v1 v3
 unfold stepW
 by_cases hlt : ga ws x < ga ws y
 ·rw [if_pos hlt]
  simp only [U1y _ _ _ _ (show y < ws.length by omega)]
  refine ⟨fun z hz hg => ?_, fun hg => ?_⟩
  ·split
   ·rename_i e; subst e; omega
   ·exact hg
  ·simp only [if_true, ite_self]
   have e0 : ga ws x = (m x : Int) := by rcases hg with hg | hg <;> omega
   omega
 ·rw [if_neg hlt]
  simp only [U1y _ _ _ _ (show x < ws.length by omega)]
  refine ⟨fun z hz hg => ?_, fun hg => ?_⟩
  ·split
   ·rename_i e; subst e; omega
   ·exact hg
  ·simp only [if_true, ite_self]
   have e0 : ga ws y = (m y : Int) := by rcases hg with hg | hg <;> omega
   omega
theorem labels {N K : Nat} (e1 e2 : Nat → Nat) (he : ∀ k, k < K → e1 k < N ∧ e2 k < N) (cl : Nat → Nat) (hin : ∀ k, k < K → cl (e1 k) = cl (e2 k))
  (hcon : ∀ Z : Nat → Prop, (∀ k, k < K → (Z (e1 k) ↔ Z (e2 k))) → ∀ x y, x < N → y < N → cl x = cl y → Z x → Z y)
  (ws : Nat → List Int) (hlen : (ws 0).length = N) (h0 : ∀ x : Nat, x < N → ga (ws 0) x = (x : Int)) (hs : ∀ j, ws (j + 1) = U3t e1 e2 (ws j) K) :
  ∀ x, x < N → ∃ z : Nat, z < N ∧ ga (ws N) x = (z : Int) ∧ cl z = cl x ∧ ∀ y, y < N → cl y = cl x → z ≤ y := by
 have hex : ∀ x : Nat, ∃ z : Nat, x < N → (z < N ∧ cl z = cl x) ∧ ∀ u, u < N ∧ cl u = cl x → z ≤ u := fun x => by
  by_cases hx : x < N
  ·obtain ⟨z, h1, h2⟩ := least (P := fun z => z < N ∧ cl z = cl x) x ⟨hx, rfl⟩
   exact ⟨z, fun _ => ⟨h1, h2⟩⟩
  ·exact ⟨0, fun h => absurd h hx⟩
 obtain ⟨m, hm0⟩ := Classical.axiomOfChoice hex
 have hm : ∀ x, x < N → ∀ y, y < N → cl y = cl x → m x ≤ y := fun x hx y hy e => (hm0 x hx).2 y ⟨hy, e⟩
 have hmc : ∀ x y, x < N → y < N → cl x = cl y → m x = m y := fun x y hx hy e => by
  have h1 := hm0 x hx
  have h2 := hm0 y hy
  have := h1.2 (m y) ⟨h2.1.1, h2.1.2.trans e.symm⟩
  have := h2.2 (m x) ⟨h1.1.1, h1.1.2.trans e⟩
  omega
 have hround : ∀ w, LabOk N cl w → ∀ k, k ≤ K → LabOk N cl (U3t e1 e2 w k) ∧ (∀ z, z < N → ga w z = (m z : Int) → ga (U3t e1 e2 w k) z = (m z : Int)) ∧
   ∀ j, j < k → (ga w (e1 j) = (m (e1 j) : Int) ∨ ga w (e2 j) = (m (e2 j) : Int)) → ga (U3t e1 e2 w k) (e1 j) = (m (e1 j) : Int) ∧ ga (U3t e1 e2 w k) (e2 j) = (m (e2 j) : Int) := fun w hw k => by
  induction k with
  | zero => exact fun _ => ⟨hw, fun z _ h => h, fun j hj => by omega⟩
  | succ k ih =>
   intro hk
   obtain ⟨a1, a2, a3⟩ := ih (by omega)
   obtain ⟨p1, p2⟩ := he k (by omega)
   have hc := hin k (by omega)
   obtain ⟨g1, g2⟩ := stepW_good hm hmc a1 p1 p2 hc
   refine ⟨stepW_ok a1 p1 p2 hc, fun z hz h => g1 z hz (a2 z hz h), fun j hj hg => ?_⟩
   obtain ⟨q1, q2⟩ := he j (by omega)
   by_cases e : j = k
   ·subst e
    exact g2 (hg.elim (fun h => .inl (a2 _ q1 h)) (fun h => .inr (a2 _ q2 h)))
   ·obtain ⟨r1, r2⟩ := a3 j (by omega) hg
    exact ⟨g1 _ q1 r1, g1 _ q2 r2⟩
 have hok : ∀ j, LabOk N cl (ws j) := fun j => by
  induction j with
  | zero => exact ⟨hlen, fun x hx => ⟨x, hx, h0 x hx, rfl⟩⟩
  | succ j ih => rw [hs]; exact (hround _ ih K (Nat.le_refl _)).1
 have hpers : ∀ j z, z < N → ga (ws j) z = (m z : Int) → ga (ws (j + 1)) z = (m z : Int) := fun j z hz h => by rw [hs]; exact (hround _ (hok j) K (Nat.le_refl _)).2.1 z hz h
 have hroot : ∀ j x, x < N → ga (ws j) (m x) = (m (m x) : Int) := fun j x hx => by
  have h1 := (hm0 x hx).1
  have e : m (m x) = m x := hmc _ _ h1.1 hx h1.2
  induction j with
  | zero => rw [h0 _ h1.1, e]
  | succ j ih => exact hpers j _ h1.1 ih
 have hgrow : ∀ j, (∀ x, x < N → ga (ws j) x = (m x : Int)) ∨ j ≤ cn (fun x => decide (ga (ws j) x = (m x : Int))) N := fun j => by
  induction j with
  | zero => exact .inr (Nat.zero_le _)
  | succ j ih =>
   rcases ih with ih | ih
   ·exact .inl fun x hx => hpers j x hx (ih x hx)
   ·by_cases hnew : ∃ x, x < N ∧ ga (ws (j + 1)) x = (m x : Int) ∧ ga (ws j) x ≠ (m x : Int)
    ·obtain ⟨x, hx, h1, h2⟩ := hnew
     right
     have := cn_lt (P := fun x => decide (ga (ws j) x = (m x : Int))) (Q := fun x => decide (ga (ws (j + 1)) x = (m x : Int))) N (fun z hz h => decide_eq_true (hpers j z hz (of_decide_eq_true h))) hx (decide_eq_true h1) (decide_eq_false h2)
     omega
    ·left
     have hsame : ∀ x, x < N → ga (ws (j + 1)) x = (m x : Int) → ga (ws j) x = (m x : Int) := fun x hx h => Classical.byContradiction fun h' => hnew ⟨x, hx, h, h'⟩
     have hcl := hcon (fun x => ga (ws j) x = (m x : Int)) (fun k hk => by
      obtain ⟨q1, q2⟩ := he k hk
      have h3 := (hround _ (hok j) K (Nat.le_refl _)).2.2 k hk
      rw [← hs] at h3
      exact ⟨fun h => hsame _ q2 (h3 (.inl h)).2, fun h => hsame _ q1 (h3 (.inr h)).1⟩)
     intro x hx
     have h1 := (hm0 x hx).1
     exact hpers j x hx (hcl (m x) x h1.1 hx h1.2 (hroot j x hx))
 intro x hx
 have hall : ga (ws N) x = (m x : Int) := by
  rcases hgrow N with h | h
  ·exact h x hx
  ·exact of_decide_eq_true (cn_all N h x hx)
 have h1 := hm0 x hx
 exact ⟨m x, h1.1.1, hall, h1.1.2, fun y hy e => h1.2 y ⟨hy, e⟩⟩
end Go.Proofs.YthppkofceancjaaGreat
namespace Go.Proofs.YthppkofceancjaaGreat
open Go.ChangeShapes Go.WideShapes Go.ChangeAt Go.RowKit
theorem edge_nb {d : Dg} (h : U1b d = true) {x s : Nat} (hx : x < d.crs.length) (hs : s < 4) : ∃ k, k < 2 * d.crs.length ∧ ((endC d k false = x ∧ endC d k true = nbC d x s) ∨ (endC d k true = x ∧ endC d k false = nbC d x s)) := by
 have ha := U2b h hx hs
 have e : (((U1g d x s).toNat - 1 + 1 : Nat) : Int) = U1g d x s := by omega
 refine ⟨(U1g d x s).toNat - 1, by omega, ?_⟩
 unfold endC nbC
 rw [e]
 cases hb : U1k d x s
 ·right
  exact ⟨by rw [U46 h hx hs (b := true) hb], rfl⟩
 ·left
  exact ⟨by rw [U46 h hx hs (b := false) hb], rfl⟩
theorem nb_edge {d : Dg} (h : U1b d = true) {k : Nat} (hk : k < 2 * d.crs.length) : ∃ s, s < 4 ∧ nbC d (endC d k false) s = endC d k true := by
 have ha : 1 ≤ ((k + 1 : Nat) : Int) ∧ ((k + 1 : Nat) : Int) ≤ 2 * (d.crs.length : Int) := by omega
 obtain ⟨_, h2, _⟩ := endD h ha false
 obtain ⟨h3, h4⟩ := endOf_there h ha false
 refine ⟨(Ud d ((k + 1 : Nat) : Int) false).2, h2, ?_⟩
 unfold nbC endC
 rw [h3, h4]
 rfl
theorem pcI_nb {d : Dg} (h : U1b d = true) {x s : Nat} (hx : x < d.crs.length) (hs : s < 4) : pcI d (nbC d x s) = pcI d x := by
 obtain ⟨h1, h2, _⟩ := pcI_lt h hx
 exact (pcI_at h h1 ((pcs h).clo _ h1 _ h2 s hs)).2
theorem iniW_ga (n k : Nat) (hk : k ≤ n) (x : Nat) (hx : x < k) : ga (iniW n k) x = (x : Int) := by
 induction k with
 | zero => omega
 | succ k ih =>
  rw [iniW, U1y _ _ _ _ (by rw [U3v]; omega)]
  split
  ·rename_i e; subst e; rfl
  ·exact ih (by omega) (by omega)
theorem roundG_W (d : Dg) (ws : List Int) (k : Nat) : roundW d ws k = U3t (fun j => endC d j false) (fun j => endC d j true) ws k := by
 induction k with
 | zero => rfl
 | succ k ih => rw [roundW, U3t, ih]
theorem rc_lt {d : Dg} (h : U1b d = true) {x y : Nat} (hr : Rc d x y) (hx : x < d.crs.length) : y < d.crs.length := by
 induction hr with
 | refl => exact hx
 | step _ hk ih => exact nbC_lt h ih hk
theorem pieces_join {d : Dg} (h : U1b d = true) (Z : Nat → Prop) (hZ : ∀ x s, x < d.crs.length → s < 4 → (Z x ↔ Z (nbC d x s))) {x y : Nat} (hx : x < d.crs.length) (hy : y < d.crs.length) (e : pcI d x = pcI d y) : Z x → Z y := by
 have hrc : ∀ c z, c < d.crs.length → Rc d c z → (Z c ↔ Z z) := fun c z hc hr => by
  induction hr with
  | refl => exact Iff.rfl
  | step hr' hk ih => exact ih.trans (hZ _ _ (rc_lt h hr' hc) hk)
 obtain ⟨h1, h2, _⟩ := pcI_lt h hx
 obtain ⟨_, h2', _⟩ := pcI_lt h hy
 rw [← e] at h2'
 obtain ⟨_, c0, hc0, _, hel⟩ := (pcs h).el _ h1
 obtain ⟨u, eu, _, ru⟩ := hel _ h2
 obtain ⟨v, ev, _, rv⟩ := hel _ h2'
 obtain rfl : x = u := by omega
 obtain rfl : y = v := by omega
 exact fun hz => (hrc _ _ hc0 rv).1 ((hrc _ _ hc0 ru).2 hz)
theorem whoL_law {d : Dg} (h : U1b d = true) : ∀ x, x < d.crs.length → ∃ z : Nat, z < d.crs.length ∧ ga (whoL d) x = (z : Int) ∧ pcI d z = pcI d x ∧ ∀ y, y < d.crs.length → pcI d y = pcI d x → z ≤ y :=
 labels (N := d.crs.length) (K := 2 * d.crs.length) (fun j => endC d j false) (fun j => endC d j true) (fun k hk => ⟨endC_lt h hk false, endC_lt h hk true⟩) (pcI d)
  (fun k hk => by
   obtain ⟨s, hs, e⟩ := nb_edge h hk
   rw [← e, pcI_nb h (endC_lt h hk false) hs])
  (fun Z hZ x y hx hy e => pieces_join h Z (fun u s hu hs => by
   obtain ⟨k, hk, hh⟩ := edge_nb h hu hs
   have := hZ k hk
   rcases hh with ⟨h1, h2⟩ | ⟨h1, h2⟩
   ·rw [h1, h2] at this; exact this
   ·rw [h1, h2] at this; exact this.symm) hx hy e)
  (rndsW d) (rndsW_len d 0) (fun x hx => iniW_ga _ _ (Nat.le_refl _) x hx) (fun j => by rw [rndsW, roundG_W])
theorem who_root {d : Dg} (h : U1b d = true) {x z : Nat} (hx : x < d.crs.length) (hz : ga (whoL d) x = (z : Int)) : z < d.crs.length ∧ pcI d z = pcI d x ∧ ga (whoL d) z = (z : Int) := by
 obtain ⟨u, h1, h2, h3, h4⟩ := whoL_law h x hx
 obtain rfl : z = u := by omega
 obtain ⟨v, g1, g2, g3, g4⟩ := whoL_law h z h1
 have a1 := g4 z h1 rfl
 have a2 := h4 v g1 (g3.trans h3)
 obtain rfl : v = z := by omega
 exact ⟨h1, h3, g2⟩
theorem who_iff {d : Dg} (h : U1b d = true) {p : Nat} (hp : p < d.crs.length) (hr : ga (whoL d) p = (p : Int)) {x : Nat} (hx : x < d.crs.length) : ga (whoL d) x = (p : Int) ↔ pcI d x = pcI d p := by
 constructor
 ·intro e
  exact (who_root h hx e).2.1.symm
 ·intro e
  obtain ⟨u, h1, h2, h3, h4⟩ := whoL_law h x hx
  obtain ⟨v, g1, g2, g3, g4⟩ := whoL_law h p hp
  obtain rfl : v = p := by omega
  have a1 := h4 v hp e.symm
  have a2 := g4 u h1 (h3.trans e)
  rw [h2]
  omega
theorem cn_congr {P Q : Nat → Bool} (k : Nat) (h : ∀ x, x < k → P x = Q x) : cn P k = cn Q k := by
 induction k with
 | zero => rfl
 | succ k ih => rw [cn, cn, ih (fun x hx => h x (by omega)), h k (by omega)]
theorem cn_filter (P : Nat → Bool) (k : Nat) : cn P k = ((List.range k).filter P).length := by
 induction k with
 | zero => rfl
 | succ k ih =>
  rw [cn, ih, List.range_succ, List.filter_append, List.length_append]
  by_cases hp : P k = true <;> simp [hp]
theorem negW_cn (ws : List Int) (p : Int) (k : Nat) : negW ws p k = -(cn (fun x => decide (ga ws x = p)) k : Int) := by
 induction k with
 | zero => rfl
 | succ k ih =>
  rw [negW, cn, ih]
  by_cases e : ga ws k = p
  ·rw [if_pos e, if_pos (decide_eq_true e)]; omega
  ·rw [if_neg e, if_neg (by simpa using e)]; omega
theorem facW_cn (d : Dg) (ws : List Int) (p m : Int) (k : Nat) : facW d ws p m k = m + (cn (fun x => decide (ga ws (fcC d x) = p)) k : Int) := by
 induction k with
 | zero => rw [facW, cn]; omega
 | succ k ih =>
  rw [facW, cn, ih]
  by_cases e : ga ws (fcC d k) = p
  ·rw [if_pos e, if_pos (decide_eq_true e)]; omega
  ·rw [if_neg e, if_neg (by simpa using e)]; omega
theorem fcN_cn (d : Dg) (i : Nat) (hi : i < (pcsL d).length) (k : Nat) : ga (fcN d k) i = (cn (fun x => decide (pcI d (fcC d x) = i)) k : Int) := by
 induction k with
 | zero => rw [fcN, ga_rep _ _ _ hi]; rfl
 | succ k ih =>
  rw [fcN, cn]
  by_cases e : pcI d (fcC d k) = i
  ·rw [if_pos (decide_eq_true e), e, U1y _ _ _ _ (by rw [fcN_len]; exact hi), if_pos rfl, ih]; omega
  ·rw [if_neg (by simpa using e), ga_set_ne _ _ _ _ e, ih]; omega
theorem piece_cn {d : Dg} (h : U1b d = true) {i : Nat} (hi : i < (pcsL d).length) : (ga (pcsL d) i).length = cn (fun x => decide (pcI d x = i)) d.crs.length := by
 rw [cn_filter]
 obtain ⟨h1, c0, _, _, h2⟩ := (pcs h).el i hi
 have hn : ((List.range d.crs.length).filter (fun x => decide (pcI d x = i))).Nodup := List.Nodup.sublist (List.filter_sublist) List.nodup_range
 apply Nat.le_antisymm
 ·have h3 := nodup_le (ys := ((List.range d.crs.length).filter (fun x => decide (pcI d x = i))).map fun x : Nat => (x : Int)) h1 (fun y hy => by
   obtain ⟨z, rfl, hz, _⟩ := h2 y hy
   exact List.mem_map.2 ⟨z, List.mem_filter.2 ⟨List.mem_range.2 hz, decide_eq_true (pcI_at h hi hy).2⟩, rfl⟩)
  rw [List.length_map] at h3
  exact h3
 ·have hn' : (((List.range d.crs.length).filter (fun x => decide (pcI d x = i))).map fun x : Nat => (x : Int)).Nodup := by
   rw [List.nodup_iff_pairwise_ne, List.pairwise_map]
   exact List.Pairwise.imp (fun hab e => hab (by omega)) hn
  have h3 := nodup_le (ys := ga (pcsL d) i) hn' (fun y hy => by
   obtain ⟨z, hz, rfl⟩ := List.mem_map.1 hy
   obtain ⟨hz1, hz2⟩ := List.mem_filter.1 hz
   obtain ⟨_, g2, _⟩ := pcI_lt h (List.mem_range.1 hz1)
   rw [of_decide_eq_true hz2] at g2
   exact g2)
  rw [List.length_map] at h3
  exact h3
theorem root_count {d : Dg} (h : U1b d = true) {p : Nat} (hp : p < d.crs.length) (hr : ga (whoL d) p = (p : Int)) : pcI d p < (pcsL d).length ∧
  (facW d (whoL d) p (negW (whoL d) p d.crs.length) (U6 d).length = 2 ↔ ga (fcN d (U6 d).length) (pcI d p) = ((ga (pcsL d) (pcI d p)).length : Int) + 2) := by
 obtain ⟨h1, _, _⟩ := pcI_lt h hp
 refine ⟨h1, ?_⟩
 rw [facW_cn, negW_cn, fcN_cn d _ h1, piece_cn h h1]
 have e1 : cn (fun x => decide (ga (whoL d) x = (p : Int))) d.crs.length = cn (fun x => decide (pcI d x = pcI d p)) d.crs.length := cn_congr _ fun x hx => decide_eq_decide.2 (who_iff h hp hr hx)
 have e2 : cn (fun x => decide (ga (whoL d) (fcC d x) = (p : Int))) (U6 d).length = cn (fun x => decide (pcI d (fcC d x) = pcI d p)) (U6 d).length := cn_congr _ fun x hx => decide_eq_decide.2 (who_iff h hp hr (fcC_lt h hx))
 rw [e1, e2]
 omega
theorem planar_law {d : Dg} (h : U1b d = true) : planIs d = planP d := by
 rw [Bool.eq_iff_iff]
 constructor
 ·intro hp
  apply planP_t
  intro i hi
  obtain ⟨_, c0, hc0, hm, _⟩ := (pcs h).el i hi
  have e0 := (pcI_at h hi hm).2
  obtain ⟨z, _, hz, _⟩ := whoL_law h c0 hc0
  obtain ⟨r1, r2, r3⟩ := who_root h hc0 hz
  have hq := List.all_eq_true.1 hp z (List.mem_range.2 r1)
  unfold rootOk at hq
  rw [Bool.or_eq_true] at hq
  rcases hq with hq | hq
  ·exact absurd r3 (of_decide_eq_true hq)
  ·have := (root_count h r1 r3).2.1 (of_decide_eq_true hq)
   rw [r2, e0] at this
   exact this
 ·intro hp
  apply planIs_t
  intro p hpn
  unfold rootOk
  rw [Bool.or_eq_true]
  by_cases hr : ga (whoL d) p = (p : Int)
  ·right
   obtain ⟨h1, h2⟩ := root_count h hpn hr
   have hq := List.all_eq_true.1 hp _ (List.mem_range.2 h1)
   exact decide_eq_true (h2.2 (of_decide_eq_true hq))
  ·left
   exact decide_eq_true hr
end Go.Proofs.YthppkofceancjaaGreat
namespace Go.Proofs.YthppkofceancjaaGreat
open Go.ChangeShapes Go.WideShapes Go.ChangeAt Go.RowKit
theorem mayO {d : Dg} (h : mayB d = true) : d.crs.length ≤ 16 ∧ U1b d = true ∧ 0 ≤ d.loops ∧ d.loops ≤ 16 := by
 rw [mayB_arcs, Bool.and_eq_true, decide_eq_true_iff] at h
 exact ⟨h.1.1, h.2, h.1.2.1, h.1.2.2.1⟩
def DgR (d : Dg) (u : Value) (M : Hp) : Prop := ∃ A c, u = .agg [.slice A d.crs.length c, .int .i64 d.loops].toArray ∧ RdA cdCr M A c d.crs
noncomputable def Zgg:=Tryz.f9.body.getD .skip
def Zgh := cL Zgg
def Zgi := cR Zgg
def Zgj := cL Zgi
def Zgk := cR Zgi
def Zgl := cL Zgk
def Zgm := cR Zgk
set_option maxRecDepth 10000 in
theorem DiagramOf_t {w : World} {M : Hp} {X : Fr} (d : Dg) {dcrsA : Option Addr} {dcrsc : Nat} (hdcrs : RdA cdCr (M.un X.h) dcrsA dcrsc d.crs) (S : SH w M X []) : Ct Tryz.prog 9 [.agg [.slice dcrsA d.crs.length dcrsc, .int .i64 d.loops].toArray] w M X (DgR d) := by
 unfold Ct
 have rmhdcrs : d.crs.length * 40 ≤ 140737488355328 := hdcrs.room
 have hroom : d.crs.length * 40 ≤ 140737488355328 := hdcrs.room
 refine Uo (b := Zgg) Tryz.func9 rfl Tryz.ntmps9 rfl (fun C hC => (U14 [(0, _)] ⟨rfl, trivial⟩ (U2 Zgh Zgi rfl rfl rfl (U1 rfl (wlo 0 1 rfl rfl rfl (U18 (l := [_, _]) rfl rfl rfl rfl rfl S ?_))))))
 intro gb1 w1 S1; clear S
 refine wlo 1 2 rfl rfl rfl (Uh (l := [_, _]) rfl rfl rfl zr24 rfl S1 ?_)
 intro gb2 w2 S2; clear S1
 refine U5 rfl (nmk [1, 2] rfl (U4 (U2 Zgj Zgk rfl rfl rfl (U1 rfl (wlr 0 rfl (U0 rfl rfl uT24 rfl (ce22) (nf22)) (wlr 1 rfl (U3 rfl rfl uT22 rfl (S2.boxc (i := 1) rfl rfl)) ?_))))))
 have S3 := S2.nilrow cdCr; clear S2
 refine wlo 2 3 rfl rfl rfl (wo_appendM (C := cdCr) (i := 0) rfl rfl rfl rfl rfl rfl rfl rfl sl22 S3 rfl hdcrs S3.um (by have h : _ * 40 ≤ _ := hdcrs.room; show (0 + _) * 40 ≤ _; first | omega | (simp only [ls]; omega)) ?_)
 intro vr2 w3 S4; clear S3
 change SH _ _ _ [Rs.row cdCr vr2 d.crs, _, _] at S4
 refine wlr 3 rfl (U0 rfl rfl uT24 rfl (ce22) (nf22)) (wlo 4 5 rfl rfl rfl (U7 (i := 2) (us := [_]) (l' := [_, _]) (H' := [_, _, _]) rfl rfl S4 rfl rfl rfl (S4.cells1 (i := 0) rfl) sz22 rfl (Uy (S4.one (i := 0) rfl) rfl) rfl rfl ?_))
 intro w4 S5; clear S4
 refine U5 rfl (nmk [1, 2] rfl (U4 (U2 Zgl Zgm rfl rfl rfl (U1 rfl (wlr 0 rfl (U8 (us := [_, _]) rfl rfl uT24 rfl sz24 (S5.boxcs (i := 2) rfl ⟨rfl, rfl, trivial⟩)) (wlo 1 2 rfl rfl rfl (U7 (i := 1) (us := [_, _]) (l' := [_, _]) (H' := [_, _, _]) rfl rfl S5 rfl rfl rfl rfl sz24 rfl (Uy (S5.one (i := 0) rfl) (Uy rfl rfl)) rfl rfl ?_)))))))
 intro w5 S6; clear S5
 refine U5 rfl (nmk [2] rfl (U4 ?_))
 obtain ⟨M1, hle1, S7, ⟨A1, c1, e1, hr1⟩⟩ := S6.pubrow (i := 0) (H' := [_, _, _]) rfl rfl (by show _ * 40 ≤ _; first | omega | (simp only [ls]; omega))
 clear S6; subst e1
 replace hdcrs := hdcrs.mono (Hp.Ua hle1 S7.mx)
 refine Uk hC [_] rfl rfl ⟨⟨_, rfl, Up (us := [_, _]) uT24 rfl sz24 (S7.boxcs (i := 1) rfl ⟨rfl, rfl, trivial⟩)⟩, trivial⟩ ?_
 refine ⟨_, rfl, _, hle1, (S7.pick [] [] (by decide) trivial), ?_⟩
 exact ⟨_, _, rfl, hr1⟩
end Go.Proofs.YthppkofceancjaaGreat
namespace Go.Proofs.YthppkofceancjaaGreat
open Go.ChangeShapes Go.WideShapes Go.ChangeAt Go.RowKit
section
variable {P : Program} {o : Oper} {L : List (Nat × Value)} {w : World} {a b : Int}
theorem run_min {ca : Call} {ops : List Operand} {ts : List TypeId} (hop : o.op = .call ca) (hca : ca.callee = .builtin .min) (hxs : ca.args = ops.toArray) (hts : ca.argTypes = ts.toArray) (hx : oevs L ops = some [.int .i64 a, .int .i64 b]) : Run P o L w (.int .i64 (min a b)) w := by
 intro n c he
 have e : (if b < a then b else a) = min a b := by
  by_cases h : b < a
  ·rw [if_pos h]; omega
  ·rw [if_neg h]; omega
 unfold execOp
 simp only [hop, resolve, hca, hxs, hts, List.map_toArray, he.evals hx, Sem.run_bind, Sem.run_pure, Result.andThen_ok, invoke, builtin, Builtin.min_, List.foldlM_cons, List.foldlM_nil, Builtin.min2, e]
end
def relN (cl : List Int) (f t : Int) : Nat → List Int
 | 0 => cl
 | a + 1 => if ga (relN cl f t a) a = f then (relN cl f t a).set a t else relN cl f t a
theorem relN_len (cl : List Int) (f t : Int) (a : Nat) : (relN cl f t a).length = cl.length := by
 induction a with
 | zero => rfl
 | succ a ih => rw [relN]; split <;> (try rw [List.length_set]) <;> exact ih
theorem relN_ga (cl : List Int) (f t : Int) (a : Nat) (ha : a ≤ cl.length) : ∀ x, ga (relN cl f t a) x = if x < a ∧ ga cl x = f then t else ga cl x := by
 induction a with
 | zero => intro x; rw [if_neg (by omega)]; rfl
 | succ a ih =>
  have ih := ih (by omega)
  have ha0 : ga (relN cl f t a) a = ga cl a := by rw [ih, if_neg (by omega)]
  intro x
  rw [relN, ha0]
  split
  ·rename_i e
   rw [U1y _ _ _ _ (by rw [relN_len]; omega)]
   split
   ·rename_i e2; subst e2
    rw [if_pos ⟨by omega, e⟩]
   ·rw [ih]
    by_cases h9 : x < a ∧ ga cl x = f
    ·rw [if_pos h9, if_pos ⟨by omega, h9.2⟩]
    ·rw [if_neg h9, if_neg (fun h => h9 ⟨by omega, h.2⟩)]
  ·rename_i e
   rw [ih]
   by_cases h9 : x < a ∧ ga cl x = f
   ·rw [if_pos h9, if_pos ⟨by omega, h9.2⟩]
   ·rw [if_neg h9, if_neg (fun (h : x < a + 1 ∧ ga cl x = f) => by
     by_cases h8 : x = a
     ·subst h8; exact e h.2
     ·exact h9 ⟨by omega, h.2⟩)]
def ClsOk (N : Nat) (cl : List Int) : Prop := cl.length = N ∧ ∀ x, x < N → 0 ≤ ga cl x ∧ ga cl x ≤ x ∧ ga cl (ga cl x).toNat = ga cl x
theorem ok_step {N : Nat} {cl cl' : List Int} {f t : Int} (hok : ClsOk N cl) (hl : cl'.length = N) (hg : ∀ x, x < N → ga cl' x = if ga cl x = f then t else ga cl x) (hft : t ≤ f) (h0 : 0 ≤ t) (hti : ga cl t.toNat = t) : ClsOk N cl' := by
 refine ⟨hl, fun x hx => ?_⟩
 obtain ⟨x1, x2, x3⟩ := hok.2 x hx
 have e := hg x hx
 by_cases hf : ga cl x = f
 ·rw [if_pos hf] at e
  rw [e]
  refine ⟨h0, by omega, ?_⟩
  rw [hg _ (by omega)]
  split
  ·rfl
  ·exact hti
 ·rw [if_neg hf] at e
  rw [e]
  refine ⟨x1, x2, ?_⟩
  rw [hg _ (by omega), x3, if_neg hf]
theorem roundG_len (e1 e2 : Nat → Nat) (ws : List Int) (k : Nat) : (U3t e1 e2 ws k).length = ws.length := by
 induction k with
 | zero => rfl
 | succ k ih => rw [U3t, stepW_len, ih]
noncomputable def Zgn:=Tryz.f76.body.getD .skip
def Zgo := cL Zgn
def Zgp := cR Zgn
def Zgq := cL Zgp
def Zgr := cR Zgp
set_option maxRecDepth 10000 in
theorem level_w {w : World} {M : Hp} {X : Fr} (vws : Value) (ws : List Int) (i : Int) (j : Int) (hi : 0 ≤ i ∧ i < (ws.length : Int)) (hj : 0 ≤ j ∧ j < (ws.length : Int)) (S : SH w M X [Rs.row Uv vws ws]) : C1 Tryz.prog 76 [vws, .int .i64 i, .int .i64 j] w M X (fun u M' r' => u = tup [] ∧ M' = M ∧ r' = Rs.row Uv vws (stepW ws i.toNat j.toNat)) := by
 unfold C1
 refine Uo (b := Zgn) Tryz.func76 rfl Tryz.ntmps76 rfl (fun C hC => (U14 [(0, _), (1, _), (2, _)] ⟨rfl, rfl, rfl, trivial⟩ (U2 Zgo Zgp rfl rfl rfl (Ux rfl (by kernel_rfl) S 9 rfl ?_))))
 clear S
 refine wap 0 8 rfl (by kernel_rfl) (fun _ => run_move rfl rfl) ?_
 refine wap 1 7 rfl (by kernel_rfl) (fun _ => run_move rfl rfl) ?_
 refine wat 2 6 rfl (by kernel_rfl) (fun _ _ _ hz Sz => .inl (Ui (C := Uv) (i := 0) i.toNat rfl rfl rfl sl53 Sz.suf rfl (by first | rfl | omega) (by first | omega | (simp only [ls]; omega)))) ?_
 refine wat 3 5 rfl (by kernel_rfl) (fun _ _ _ hz Sz => .inl (U3 rfl rfl uT3 rfl (Sz.suf.rowc (i := 0) (e := i.toNat) (j := 0) rfl (by first | omega | (simp only [ls]; omega)) rfl rfl))) ?_
 refine wap 4 4 rfl (by kernel_rfl) (fun _ => run_move rfl rfl) ?_
 refine wap 5 3 rfl (by kernel_rfl) (fun _ => run_move rfl rfl) ?_
 refine wat 6 2 rfl (by kernel_rfl) (fun _ _ _ hz Sz => .inl (Ui (C := Uv) (i := 0) j.toNat rfl rfl rfl sl53 Sz.suf rfl (by first | rfl | omega) (by first | omega | (simp only [ls]; omega)))) ?_
 refine wat 7 1 rfl (by kernel_rfl) (fun _ _ _ hz Sz => .inl (U3 rfl rfl uT3 rfl (Sz.suf.rowc (i := 0) (e := j.toNat) (j := 0) rfl (by first | omega | (simp only [ls]; omega)) rfl rfl))) ?_
 refine wap 8 0 rfl (by kernel_rfl) (fun _ => U17 rfl rfl rfl) ?_
 refine Uu (by kernel_rfl) (fun w10 S10 => ?_)
 refine nmk [0, 1, 2, 14] rfl (U4 ?_)
 refine Ue Zgq Zgr rfl rfl rfl rfl (fun hb14 => ?_) (fun hb14 => ?_)
 ·refine U1 rfl (mvs 0 4 rfl rfl (wlr 4 rfl (Ui (C := Uv) (i := 0) i.toNat rfl rfl rfl sl53 S10 rfl (by first | rfl | omega) (by first | omega | (simp only [ls]; omega))) ?_))
  refine wlr 5 rfl (U3 rfl rfl uT3 rfl (S10.rowc (i := 0) (e := i.toNat) (j := 0) rfl (by first | omega | (simp only [ls]; omega)) rfl rfl)) ?_
  refine wlr 6 rfl (Ui (C := Uv) (i := 0) j.toNat rfl rfl rfl sl53 S10 rfl (by first | rfl | omega) (by first | omega | (simp only [ls]; omega))) ?_
  refine wlo 7 8 rfl rfl rfl (U1i (C := Uv) (i := 0) (e := j.toNat) (j := 0) (us := [_]) (H' := [_]) (ga ws i.toNat) rfl rfl S10 rfl (by first | omega | (simp only [ls]; omega)) rfl rfl rfl sz3 rfl rfl rfl rfl ?_)
  intro w11 S11; clear S10
  refine U5 rfl (U2j hC [] rfl trivial ?_)
  exact ⟨_, rfl, _, _, Hp.le_refl _, S11.pick [0] [_] (by decide) ⟨rfl, trivial⟩, ⟨rfl, rfl, by unfold stepW; first | rw [if_pos (by assumption)] | rw [if_neg (by assumption)]⟩⟩
 ·refine U1 rfl (mvs 0 4 rfl rfl (wlr 4 rfl (Ui (C := Uv) (i := 0) j.toNat rfl rfl rfl sl53 S10 rfl (by first | rfl | omega) (by first | omega | (simp only [ls]; omega))) ?_))
  refine wlr 5 rfl (U3 rfl rfl uT3 rfl (S10.rowc (i := 0) (e := j.toNat) (j := 0) rfl (by first | omega | (simp only [ls]; omega)) rfl rfl)) ?_
  refine wlr 6 rfl (Ui (C := Uv) (i := 0) i.toNat rfl rfl rfl sl53 S10 rfl (by first | rfl | omega) (by first | omega | (simp only [ls]; omega))) ?_
  refine wlo 7 8 rfl rfl rfl (U1i (C := Uv) (i := 0) (e := i.toNat) (j := 0) (us := [_]) (H' := [_]) (ga ws j.toNat) rfl rfl S10 rfl (by first | omega | (simp only [ls]; omega)) rfl rfl rfl sz3 rfl rfl rfl rfl ?_)
  intro w12 S12; clear S10
  refine U5 rfl (U2j hC [] rfl trivial ?_)
  exact ⟨_, rfl, _, _, Hp.le_refl _, S12.pick [0] [_] (by decide) ⟨rfl, trivial⟩, ⟨rfl, rfl, by unfold stepW; first | rw [if_pos (by assumption)] | rw [if_neg (by assumption)]⟩⟩
end Go.Proofs.YthppkofceancjaaGreat
namespace Go.Proofs.YthppkofceancjaaGreat
open Go.ChangeShapes Go.WideShapes Go.ChangeAt Go.RowKit
def abv (x : Cr) : Int × Int := if x.plus = true then (x.d, x.b) else (x.b, x.d)
noncomputable def Zgs:=Tryz.f139.body.getD .skip
def Zgt := cL Zgs
def Zgu := cR Zgs
def Zgv := cL Zgu
def Zgw := cR Zgu
def Zgx := cL Zgv
def Zgy := cR Zgv
def Zgz := cL Zgy
def Zh0 := cR Zgy
def Zh1 := cL Zgz
def Zh2 := cR Zgz
def Zh3 := cL Zgw
def Zh4 := cR Zgw
set_option maxRecDepth 10000 in
theorem Above_q {w : World} {M : Hp} {X : Fr} (x : Cr) (S : SH w M X []) : Cq Tryz.prog 139 [.agg [.int .i64 x.a, .int .i64 x.b, .int .i64 x.c, .int .i64 x.d, .bool x.plus].toArray] w M X (fun u => u = .agg [.int .i64 (abv x).1, .int .i64 (abv x).2].toArray) := by
 unfold Cq
 refine Uo (b := Zgs) Tryz.func139 rfl Tryz.ntmps139 rfl (fun C hC => (U14 [(0, _)] ⟨rfl, trivial⟩ (U2 Zgt Zgu rfl rfl rfl (U1 rfl (wlo 0 1 rfl rfl rfl (U18 (l := [_, _, _, _, _]) rfl rfl rfl rfl rfl S ?_))))))
 intro gb1 w1 S1; clear S
 refine wlo 1 2 rfl rfl rfl (Uh (l := [_, _]) rfl rfl rfl zr128 rfl S1 ?_)
 intro gb2 w2 S2; clear S1
 refine U5 rfl (nmk [1, 2] rfl (U4 (U2 Zgv Zgw rfl rfl rfl (U2 Zgx Zgy rfl rfl rfl (U1 rfl (wlr 0 rfl (U0 rfl rfl uT77 rfl (ce4) (nf4)) (wlr 1 rfl (U3 rfl rfl uT4 rfl (S2.boxc (i := 1) rfl rfl)) (U5 rfl ?_))))))))
 refine nmk [1, 2, 4] rfl (U4 ?_)
 refine U19 Zgz Zh0 rfl rfl rfl rfl (fun hb4 => ?_) (fun hb4 => ?_)
 ·refine U2 Zh1 Zh2 rfl rfl rfl (U1 rfl (wlr 0 rfl (U0 rfl rfl uT77 rfl (ce3) (nf3)) (wlr 1 rfl (U3 rfl rfl uT3 rfl (S2.boxc (i := 1) rfl rfl)) (wlr 2 rfl (U0 rfl rfl uT77 rfl (ce3) (nf3)) (wlr 3 rfl (U3 rfl rfl uT3 rfl (S2.boxc (i := 1) rfl rfl)) (wlr 4 rfl (U1n (l := [_, _]) (pl := [(0, 1), (1, 1)]) rfl rfl uT128 zr128 sz3 rfl rfl rfl) (wlo 5 6 rfl rfl rfl (U7 (i := 0) (us := [_, _]) (l' := [_, _]) (H' := [_, _]) rfl rfl S2 rfl rfl rfl rfl sz128 rfl rfl rfl rfl ?_))))))))
  intro w3 S3; clear S2
  refine U5 rfl (nmk [2] rfl (U4 (Uk hC [_] rfl rfl ⟨⟨_, rfl, Up (us := [_, _]) uT128 rfl sz128 (S3.boxcs (i := 0) rfl ⟨rfl, rfl, trivial⟩)⟩, trivial⟩ ?_)))
  exact ⟨_, rfl, (S3.pick [] [] (by decide) trivial), (by show Value.agg _ = _; unfold abv; first | rw [if_pos (by assumption)] | rw [if_neg (by simp [*])])⟩
 ·refine Uf rfl (nmk [1, 2] rfl (U4 (U2 Zh3 Zh4 rfl rfl rfl (U1 rfl (wlr 0 rfl (U0 rfl rfl uT77 rfl (ce3) (nf3)) (wlr 1 rfl (U3 rfl rfl uT3 rfl (S2.boxc (i := 1) rfl rfl)) (wlr 2 rfl (U0 rfl rfl uT77 rfl (ce3) (nf3)) (wlr 3 rfl (U3 rfl rfl uT3 rfl (S2.boxc (i := 1) rfl rfl)) ?_))))))))
  refine wlr 4 rfl (U1n (l := [_, _]) (pl := [(0, 1), (1, 1)]) rfl rfl uT128 zr128 sz3 rfl rfl rfl) (wlo 5 6 rfl rfl rfl (U7 (i := 0) (us := [_, _]) (l' := [_, _]) (H' := [_, _]) rfl rfl S2 rfl rfl rfl rfl sz128 rfl rfl rfl rfl ?_))
  intro w4 S4; clear S2
  refine U5 rfl (nmk [2] rfl (U4 (Uk hC [_] rfl rfl ⟨⟨_, rfl, Up (us := [_, _]) uT128 rfl sz128 (S4.boxcs (i := 0) rfl ⟨rfl, rfl, trivial⟩)⟩, trivial⟩ ?_)))
  exact ⟨_, rfl, (S4.pick [] [] (by decide) trivial), (by show Value.agg _ = _; unfold abv; first | rw [if_pos (by assumption)] | rw [if_neg (by simp [*])])⟩
noncomputable def Zh5:=Tryz.f138.body.getD .skip
def Zh6 := cL Zh5
def Zh7 := cR Zh5
def Zh8 := cL Zh7
def Zh9 := cR Zh7
set_option maxRecDepth 10000 in
theorem Below_q {w : World} {M : Hp} {X : Fr} (x : Cr) (S : SH w M X []) : Cq Tryz.prog 138 [.agg [.int .i64 x.a, .int .i64 x.b, .int .i64 x.c, .int .i64 x.d, .bool x.plus].toArray] w M X (fun u => u = .agg [.int .i64 x.a, .int .i64 x.c].toArray) := by
 unfold Cq
 refine Uo (b := Zh5) Tryz.func138 rfl Tryz.ntmps138 rfl (fun C hC => (U14 [(0, _)] ⟨rfl, trivial⟩ (U2 Zh6 Zh7 rfl rfl rfl (U1 rfl (wlo 0 1 rfl rfl rfl (U18 (l := [_, _, _, _, _]) rfl rfl rfl rfl rfl S ?_))))))
 intro gb1 w1 S1; clear S
 refine wlo 1 2 rfl rfl rfl (Uh (l := [_, _]) rfl rfl rfl zr128 rfl S1 ?_)
 intro gb2 w2 S2; clear S1
 refine U5 rfl (nmk [1, 2] rfl (U4 (U2 Zh8 Zh9 rfl rfl rfl (U1 rfl (wlr 0 rfl (U0 rfl rfl uT77 rfl (ce3) (nf3)) (wlr 1 rfl (U3 rfl rfl uT3 rfl (S2.boxc (i := 1) rfl rfl)) (wlr 2 rfl (U0 rfl rfl uT77 rfl (ce3) (nf3)) (wlr 3 rfl (U3 rfl rfl uT3 rfl (S2.boxc (i := 1) rfl rfl)) ?_))))))))
 refine wlr 4 rfl (U1n (l := [_, _]) (pl := [(0, 1), (1, 1)]) rfl rfl uT128 zr128 sz3 rfl rfl rfl) (wlo 5 6 rfl rfl rfl (U7 (i := 0) (us := [_, _]) (l' := [_, _]) (H' := [_, _]) rfl rfl S2 rfl rfl rfl rfl sz128 rfl rfl rfl rfl ?_))
 intro w3 S3; clear S2
 refine U5 rfl (nmk [2] rfl (U4 (Uk hC [_] rfl rfl ⟨⟨_, rfl, Up (us := [_, _]) uT128 rfl sz128 (S3.boxcs (i := 0) rfl ⟨rfl, rfl, trivial⟩)⟩, trivial⟩ ?_)))
 exact ⟨_, rfl, (S3.pick [] [] (by decide) trivial), rfl⟩
end Go.Proofs.YthppkofceancjaaGreat
