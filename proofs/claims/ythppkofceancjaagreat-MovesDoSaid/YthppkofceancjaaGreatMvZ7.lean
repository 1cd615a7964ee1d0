/- Part 7 of the proof of the law MovesDo: the walks through its functions and the plain laws that they need. -/
import Derived.Test.YthppkofceancjaaGreatMvZ6
set_option linter.unusedSimpArgs false
set_option linter.unusedVariables false
noncomputable section
namespace Go.Proofs.YthppkofceancjaaGreat
open Go.ChangeShapes Go.WideShapes Go.ChangeAt Go.RowKit
theorem contains_inG (gs : List Nat) (c : Nat) : (gs.map fun x : Nat => (x : Int)).contains (c : Int) = inG gs c := by
 rw [Bool.eq_iff_iff, List.contains_iff_mem, inG_iff, List.mem_map]
 constructor
 ·rintro ⟨x, hx, e⟩
  obtain rfl : x = c := by omega
  exact hx
 ·exact fun h => ⟨c, h, rfl⟩
theorem uE_at {d : Dg} {gs : List Nat} {i k : Nat} (hk : k < 2) : uE1 d gs (2 * i + k) = (U1g d (ga gs i) k).toNat ∧ uE2 d gs (2 * i + k) = (U1g d (ga gs i) (k + 2)).toNat := by
 unfold uE1 uE2
 rw [show (2 * i + k) / 2 = i by omega, show (2 * i + k) % 2 = k by omega]
 exact ⟨rfl, rfl⟩
theorem cast_add2 (x : Int) (n : Nat) : x + ((n : Nat) : Int) + 1 = x + ((n + 1 : Nat) : Int) := by omega
noncomputable def Zn7:=Tryz.f77.body.getD .skip
def Zn8 := cL Zn7
def Zn9 := cR Zn7
def Zna := cL Zn9
def Znb := cR Zn9
def Znc := cL Zna
def Znd := cR Zna
def Zne := cL Znd
def Znf := cL Zne
def Zng := cL Znf
def Znh := cR Znf
def Zni := cL Zng
def Znj := cR Zng
def Znk := cL Znj
def Znl := cR Znj
def Znm := cL Znh
def Znn := cR Znh
def Zno := cL Znm
def Znp := cL Zno
def Znq := cR Zno
def Znr := cL Znq
def Zns := cR Znq
def Znt := cL Znr
def Znu := cR Znr
def Znv := cL Znb
def Znw := cR Znb
set_option maxRecDepth 10000 in
theorem within_q {w : World} {M : Hp} {X : Fr} (l : List Int) {lA : Option Addr} {lc : Nat} (x : Int) (hl : RdA Uv (M.un X.h) lA lc l) (S : SH w M X []) : Cq Tryz.prog 77 [.slice lA l.length lc, .int .i64 x] w M X (fun u => u = .bool (l.contains x)) := by
 unfold Cq
 have rmhl : l.length * 8 ≤ 140737488355328 := hl.room
 refine Uo (b := Zn7) Tryz.func77 rfl Tryz.ntmps77 rfl (fun C hC => (U14 [(0, _), (1, _)] ⟨rfl, rfl, trivial⟩ (U2 Zn8 Zn9 rfl rfl rfl (U1 rfl (mvs 0 1 rfl rfl (U5 rfl (nmk [0, 1] rfl (U4 (U2 Zna Znb rfl rfl rfl ?_)))))))))
 refine U2 Znc Znd rfl rfl rfl (U1 rfl (mvs 0 1 rfl rfl (U5 rfl (U4 (Uc Zne 0 rfl rfl rfl ?_)))))
 refine U11 (fun mx_ ax_ wx_ => ∃ (i : Nat), mx_ = l.length - i ∧ Env 18 [(0, .slice lA l.length lc), (1, .int .i64 x), (5, .int .i64 (i : Int))] ax_ ∧ SH wx_ M X [] ∧ i ≤ l.length ∧ (∀ j, j < i → ga l j ≠ x)) rfl ?_ ?_
 ·intro ax_ hax_
  refine ⟨_, ⟨0, rfl, hax_.sub ⟨rfl, rfl, rfl, trivial⟩, S.pick [] [] (by decide) trivial, ?hq1f0, ?hq1f1⟩⟩
  case hq1f0 => omega
  case hq1f1 => (intro j hj; omega)
 ·rintro m1 a1 w1 ⟨i, rfl, he1, S1, hi, hno⟩
  clear S
  refine U1u he1 (c := Znf) rfl ?_
  clear he1 a1
  refine U2 Zng Znh rfl rfl rfl (U2 Zni Znj rfl rfl rfl (U1 rfl (mvs 0 2 rfl rfl (wlr 2 rfl (U1f rfl rfl rfl rfl rfl rfl uT53) (wlr 3 rfl (U17 rfl rfl rfl) (U5 rfl (nmk [0, 1, 5, 9] rfl (U4 ?_))))))))
  refine Ue Znk Znl rfl rfl rfl rfl (fun hb9 => ?_) (fun hb9 => ?_)
  ·refine Uf rfl (nmk [0, 1, 5] rfl (U4 (U2 Znm Znn rfl rfl rfl (Uc Zno 1 rfl rfl rfl (U2 Znp Znq rfl rfl rfl (U1 rfl (mvs 0 2 rfl rfl (wlr 2 rfl (Uj (C := Uv) i rfl rfl rfl sl53 (by first | rfl | omega) hl (by first | omega | (simp only [ls]; omega))) ?_))))))))
   refine wlr 3 rfl (U3 rfl rfl uT3 rfl (hl.cell S1.um (i := i) (by first | omega | (simp only [ls]; omega)) 0 rfl rfl)) ?_
   refine mvs 4 1 rfl rfl (wlr 5 rfl (Uz rfl rfl rfl) (U5 rfl (nmk [0, 1, 5, 17] rfl (U4 ?_))))
   refine Ue Znr Zns rfl rfl rfl rfl (fun hb17 => ?_) (fun hb17 => ?_)
   ·refine U2 Znt Znu rfl rfl rfl (U1 rfl (mvs 0 1 rfl rfl (U5 rfl (nmk [4] rfl (U4 (Uk hC [_] rfl rfl ⟨rfl, trivial⟩ ?_))))))
    exact ⟨_, rfl, (S1.pick [] [] (by decide) trivial), (by show Value.bool _ = _; refine congrArg Value.bool ?_; symm; first | (rw [List.contains_iff_mem]; exact (by assumption : ga l i = x) ▸ U2m (by omega)) | (rw [Bool.eq_false_iff, Ne, List.contains_iff_mem]; intro hm; obtain ⟨j, hj, e⟩ := List.mem_iff_getElem.1 hm; exact hno j (by omega) (by rw [U36 hj]; exact e)))⟩
   ·refine Uf rfl (U12 (nmk [0, 1, 5] rfl (U4 (U1 rfl (mvs 0 1 rfl rfl (wlr 1 rfl (Ug rfl rfl rfl (by first | omega | (simp only [ls]; omega))) ?_))))))
    refine mvs 2 1 rfl rfl (U5 rfl (U15 ?_))
    intro ax_ hax_
    refine ⟨_, ?hq2m, ⟨i + 1, rfl, hax_.sub ⟨rfl, rfl, rfl, trivial⟩, S1.pick [] [] (by decide) trivial, ?hq2f0, ?hq2f1⟩⟩
    case hq2f0 => omega
    case hq2f1 => (intro j hj; by_cases e : j = i; (subst e; assumption); exact hno j (by omega))
    case hq2m => omega
  ·refine U16 rfl rfl (U1a [] trivial (U4 (U2 Znv Znw rfl rfl rfl (U1 rfl (mvs 0 1 rfl rfl (U5 rfl (U4 (Uk hC [_] rfl rfl ⟨rfl, trivial⟩ ?_))))))))
   exact ⟨_, rfl, (S1.pick [] [] (by decide) trivial), (by show Value.bool _ = _; refine congrArg Value.bool ?_; symm; first | (rw [List.contains_iff_mem]; exact (by assumption : ga l i = x) ▸ U2m (by omega)) | (rw [Bool.eq_false_iff, Ne, List.contains_iff_mem]; intro hm; obtain ⟨j, hj, e⟩ := List.mem_iff_getElem.1 hm; exact hno j (by omega) (by rw [U36 hj]; exact e)))⟩
noncomputable def Znx:=Tryz.f36.body.getD .skip
def Zny := cL Znx
def Znz := cR Znx
def Zo0 := cL Znz
def Zo1 := cR Znz
def Zo2 := cL Zo1
def Zo3 := cR Zo1
def Zo4 := cL Zo3
def Zo5 := cR Zo3
def Zo6 := cL Zo4
def Zo7 := cR Zo4
def Zo8 := cL Zo7
def Zo9 := cL Zo8
def Zoa := cL Zo9
def Zob := cR Zo9
def Zoc := cL Zoa
def Zod := cR Zoa
def Zoe := cL Zod
def Zof := cR Zod
def Zog := cL Zob
def Zoh := cR Zob
def Zoi := cL Zog
def Zoj := cL Zo5
def Zok := cR Zo5
def Zol := cL Zoj
def Zom := cR Zoj
def Zon := cL Zom
def Zoo := cL Zon
def Zop := cL Zoo
def Zoq := cR Zoo
def Zor := cL Zop
def Zos := cR Zop
def Zot := cL Zos
def Zou := cR Zos
def Zov := cL Zoq
def Zow := cR Zoq
def Zox := cL Zov
def Zoy := cL Zox
def Zoz := cR Zox
def Zp0 := cL Zoz
def Zp1 := cL Zp0
def Zp2 := cL Zp1
def Zp3 := cR Zp1
def Zp4 := cL Zp2
def Zp5 := cR Zp2
def Zp6 := cL Zp5
def Zp7 := cR Zp5
def Zp8 := cL Zp3
def Zp9 := cR Zp3
def Zpa := cL Zp8
def Zpb := cL Zpa
def Zpc := cR Zpa
def Zpd := cL Zpc
def Zpe := cL Zpd
def Zpf := cL Zpe
def Zpg := cR Zpe
def Zph := cL Zpf
def Zpi := cR Zpf
def Zpj := cL Zpi
def Zpk := cR Zpi
def Zpl := cL Zpg
def Zpm := cR Zpg
def Zpn := cL Zpl
def Zpo := cL Zok
def Zpp := cR Zok
def Zpq := cL Zpp
def Zpr := cR Zpp
def Zps := cL Zpr
def Zpt := cR Zpr
def Zpu := cL Zps
def Zpv := cR Zps
def Zpw := cL Zpv
def Zpx := cL Zpw
def Zpy := cL Zpx
def Zpz := cR Zpx
def Zq0 := cL Zpy
def Zq1 := cR Zpy
def Zq2 := cL Zq1
def Zq3 := cR Zq1
def Zq4 := cL Zpz
def Zq5 := cR Zpz
def Zq6 := cL Zq4
def Zq7 := cL Zq6
def Zq8 := cR Zq6
def Zq9 := cL Zq8
def Zqa := cR Zq8
def Zqb := cL Zq9
def Zqc := cR Zq9
def Zqd := cL Zqc
def Zqe := cL Zqd
def Zqf := cL Zqe
def Zqg := cR Zqe
def Zqh := cL Zqf
def Zqi := cR Zqf
def Zqj := cL Zqi
def Zqk := cR Zqi
def Zql := cL Zqg
def Zqm := cR Zqg
def Zqn := cL Zql
def Zqo := cL Zpt
def Zqp := cR Zpt
def Zqq := cL Zqp
def Zqr := cR Zqp
def Zqs := cL Zqr
def Zqt := cR Zqr
def Zqu := cL Zqs
def Zqv := cR Zqs
def Zqw := cL Zqv
def Zqx := cL Zqw
def Zqy := cL Zqx
def Zqz := cR Zqx
def Zr0 := cL Zqy
def Zr1 := cR Zqy
def Zr2 := cL Zr1
def Zr3 := cR Zr1
def Zr4 := cL Zqz
def Zr5 := cR Zqz
def Zr6 := cL Zr4
def Zr7 := cL Zr6
def Zr8 := cR Zr6
def Zr9 := cL Zr8
def Zra := cR Zr8
def Zrb := cL Zr9
def Zrc := cR Zr9
def Zrd := cL Zra
def Zre := cR Zra
def Zrf := cL Zre
def Zrg := cR Zre
def Zrh := cL Zqt
def Zri := cR Zqt
def Zrj := cL Zrh
def Zrk := cR Zrh
def Zrl := cL Zrk
def Zrm := cL Zrl
def Zrn := cL Zrm
def Zro := cR Zrm
def Zrp := cL Zrn
def Zrq := cR Zrn
def Zrr := cL Zrq
def Zrs := cR Zrq
def Zrt := cL Zro
def Zru := cR Zro
def Zrv := cL Zrt
def Zrw := cL Zrv
def Zrx := cR Zrv
def Zry := cL Zrw
def Zrz := cR Zrw
def Zs0 := cL Zrz
def Zs1 := cR Zrz
def Zs2 := cL Zrx
def Zs3 := cR Zrx
def Zs4 := cL Zri
def Zs5 := cR Zri
set_option maxHeartbeats 4000000 in
set_option maxRecDepth 10000 in
theorem takenOut_t {w : World} {M : Hp} {X : Fr} (d : Dg) {dcrsA : Option Addr} {dcrsc : Nat} (gone : List Int) {goneA : Option Addr} {gonec : Nat} (hdcrs : RdA cdCr (M.un X.h) dcrsA dcrsc d.crs) (hgone : RdA Uv (M.un X.h) goneA gonec gone) {gs : List Nat} (hsq : gone = gs.map fun x : Nat => (x : Int)) (hgs : ∀ x ∈ gs, x < d.crs.length) (hn : d.crs.length ≤ 16) (hab : U1b d = true) (hlo0 : 0 ≤ d.loops ∧ d.loops ≤ 1000) (S : SH w M X []) : Ct Tryz.prog 36 [.agg [.slice dcrsA d.crs.length dcrsc, .int .i64 d.loops].toArray, .slice goneA gone.length gonec] w M X (fun u N => ∃ A c, u = .agg [.slice A (tkD d (inG gs)).crs.length c, .int .i64 (tkD d (inG gs)).loops].toArray ∧ RdA cdCr N A c (tkD d (inG gs)).crs) := by
 unfold Ct
 have rmhdcrs : d.crs.length * 40 ≤ 140737488355328 := hdcrs.room
 have rmhgone : gone.length * 8 ≤ 140737488355328 := hgone.room
 have hcg : ∀ c : Nat, gone.contains (c : Int) = inG gs c := fun c => by rw [hsq]; exact contains_inG gs c
 have hgl : gone.length = gs.length := by rw [hsq, List.length_map]
 have hgo : ∀ q, q < gs.length → ga gone q = ((ga gs q : Nat) : Int) := fun q hq => by rw [hsq, ga_map _ _ _ hq]
 clear hsq
 refine Uo (b := Znx) Tryz.func36 rfl Tryz.ntmps36 rfl (fun C hC => (U14 [(0, _), (1, _)] ⟨rfl, rfl, trivial⟩ (U2 Zny Znz rfl rfl rfl (U1 rfl (wlo 0 1 rfl rfl rfl (U18 (l := [_, _]) rfl rfl rfl rfl rfl S ?_))))))
 intro gb1 w1 S1; clear S
 refine wlo 1 2 rfl rfl rfl (Uh (l := [_, _]) rfl rfl rfl zr24 rfl S1 ?_)
 intro gb2 w2 S2; clear S1
 refine U5 rfl (nmk [1, 2, 4] rfl (U4 (U2 Zo0 Zo1 rfl rfl rfl (U1 rfl (wlr 0 rfl (U0 rfl rfl uT24 rfl (ce22) (nf22)) (wlr 1 rfl (U3 rfl rfl uT22 rfl (S2.boxc (i := 1) rfl rfl)) (wlr 2 rfl (U1f rfl rfl rfl rfl rfl rfl uT22) (wlr 3 rfl (U28 rfl rfl rfl (by first | omega | (simp only [ls]; omega))) ?_))))))))
 refine mvs 4 1 rfl rfl (U5 rfl (nmk [1, 2, 4, 5] rfl (U4 (U2 Zo2 Zo3 rfl rfl rfl (U1 rfl (mvs 0 1 rfl rfl (wlr 1 rfl (Ug rfl rfl rfl (by first | omega | (simp only [ls]; omega))) ?_)))))))
 refine wlo 2 3 rfl rfl rfl (wo_make (C := Uv) ((2 * (d.crs.length : Int)).toNat + 1) rfl rfl rfl rfl rfl sl53 (by first | rfl | omega) (by show _ * 8 ≤ _; first | omega | (simp only [ls]; omega)) S2 ?_)
 intro vr1 w3 S3; clear S2
 refine mvs 3 1 rfl rfl (U5 rfl (nmk [1, 2, 4, 5, 6] rfl (U4 (U2 Zo4 Zo5 rfl rfl rfl (U2 Zo6 Zo7 rfl rfl rfl (U1 rfl (mvs 0 1 rfl rfl (U5 rfl ?_))))))))
 refine U4 (Uc Zo8 0 rfl rfl rfl ?_)
 refine U11 (fun mx_ ax_ wx_ => ∃ (i : Nat) (ws : List Int) (vrw : Value), mx_ = 2 * d.crs.length + 1 - i ∧ Env 185 [(1, .slice goneA gone.length gonec), (2, .pointer (some ⟨gb1, 0, none⟩)), (4, .pointer (some ⟨gb2, 0, none⟩)), (5, .int .i64 (2 * (d.crs.length : Int))), (6, vrw), (7, .int .i64 (i : Int))] ax_ ∧ SH wx_ M X [Rs.row Uv vrw ws, Rs.box gb2 24 [.slice none 0 0, .int .i64 0], Rs.box gb1 24 [.slice dcrsA d.crs.length dcrsc, .int .i64 d.loops]] ∧ i ≤ 2 * d.crs.length + 1 ∧ ws = iniW (2 * d.crs.length + 1) i) rfl ?_ ?_
 ·intro ax_ hax_
  refine ⟨_, ⟨0, _, _, rfl, hax_.sub ⟨rfl, rfl, rfl, rfl, rfl, rfl, trivial⟩, S3.pick [0, 1, 2] [_, _, _] (by decide) ⟨rfl, rfl, rfl, trivial⟩, ?hq1f0, ?hq1f1⟩⟩
  case hq1f0 => omega
  case hq1f1 => rfl
 ·rintro m1 a1 w4 ⟨i, ws, vrw, rfl, he1, S4, hi, hw⟩
  clear S3
  refine U1u he1 (c := Zo9) rfl ?_
  clear he1 a1
  have hwl : ws.length = 2 * d.crs.length + 1 := by rw [hw, U3v]
  refine U2 Zoa Zob rfl rfl rfl (U2 Zoc Zod rfl rfl rfl (U1 rfl (mvs 0 2 rfl rfl (wlr 2 rfl (U41 rfl rfl rfl) (U5 rfl (nmk [1, 2, 4, 5, 6, 7, 29] rfl (U4 ?_)))))))
  refine Ue Zoe Zof rfl rfl rfl rfl (fun hb29 => ?_) (fun hb29 => ?_)
  ·refine Uf rfl (nmk [1, 2, 4, 5, 6, 7] rfl (U4 (U2 Zog Zoh rfl rfl rfl (Uc Zoi 1 rfl rfl rfl (U1 rfl (mvs 0 3 rfl rfl (wlr 3 rfl (Ui (C := Uv) (i := 0) i rfl rfl rfl sl53 S4 rfl (by first | rfl | omega) (by first | omega | (simp only [ls]; omega))) ?_)))))))
   refine wlo 4 5 rfl rfl rfl (U1i (C := Uv) (i := 0) (e := i) (j := 0) (us := [_]) (H' := [_, _, _]) (i : Int) rfl rfl S4 rfl (by first | omega | (simp only [ls]; omega)) rfl rfl rfl sz3 rfl rfl rfl rfl ?_)
   intro w5 S5; clear S4
   refine U5 rfl (U12 (nmk [1, 2, 4, 5, 6, 7] rfl (U4 (U1 rfl (mvs 0 1 rfl rfl (wlr 1 rfl (Ug rfl rfl rfl (by first | omega | (simp only [ls]; omega))) ?_))))))
   refine mvs 2 1 rfl rfl (U5 rfl (U15 ?_))
   intro ax_ hax_
   refine ⟨_, ?hq2m, ⟨i + 1, _, _, rfl, hax_.sub ⟨rfl, rfl, rfl, rfl, rfl, rfl, trivial⟩, S5.pick [0, 1, 2] [_, _, _] (by decide) ⟨rfl, rfl, rfl, trivial⟩, ?hq2f0, ?hq2f1⟩⟩
   case hq2f0 => omega
   case hq2f1 => (rw [hw]; rfl)
   case hq2m => omega
  ·refine U16 rfl rfl (nmk [1, 2, 4, 5, 6] rfl (U4 (U2 Zoj Zok rfl rfl rfl (U2 Zol Zom rfl rfl rfl (U1 rfl (mvs 0 1 rfl rfl (U5 rfl (U4 ?_))))))))
   refine Uc Zon 2 rfl rfl rfl ?_
   refine U11 (fun mx_ ax_ wx_ => ∃ (r : Nat) (ws2 : List Int) (vrw2 : Value), mx_ = 2 * d.crs.length + 1 - r ∧ Env 185 [(1, .slice goneA gone.length gonec), (2, .pointer (some ⟨gb1, 0, none⟩)), (4, .pointer (some ⟨gb2, 0, none⟩)), (5, .int .i64 (2 * (d.crs.length : Int))), (6, vrw2), (8, .int .i64 (r : Int))] ax_ ∧ SH wx_ M X [Rs.row Uv vrw2 ws2, Rs.box gb2 24 [.slice none 0 0, .int .i64 0], Rs.box gb1 24 [.slice dcrsA d.crs.length dcrsc, .int .i64 d.loops]] ∧ r ≤ 2 * d.crs.length + 1 ∧ ws2 = rdsG (uE1 d gs) (uE2 d gs) (2 * d.crs.length + 1) (2 * gs.length) r) rfl ?_ ?_
   ·intro ax_ hax_
    refine ⟨_, ⟨0, _, _, rfl, hax_.sub ⟨rfl, rfl, rfl, rfl, rfl, rfl, trivial⟩, S4.pick [0, 1, 2] [_, _, _] (by decide) ⟨rfl, rfl, rfl, trivial⟩, ?hq3f0, ?hq3f1⟩⟩
    case hq3f0 => omega
    case hq3f1 => (obtain rfl : i = 2 * d.crs.length + 1 := (by omega); exact hw)
   ·rintro m2 a2 w6 ⟨r, ws2, vrw2, rfl, he2, S6, hr, hw2⟩
    clear S4
    refine U1u he2 (c := Zoo) rfl ?_
    clear he2 a2
    have hl2 : ws2.length = 2 * d.crs.length + 1 := by rw [hw2, rdsG_len]
    refine U2 Zop Zoq rfl rfl rfl (U2 Zor Zos rfl rfl rfl (U1 rfl (mvs 0 2 rfl rfl (wlr 2 rfl (U41 rfl rfl rfl) (U5 rfl (nmk [1, 2, 4, 5, 6, 8, 38] rfl (U4 ?_)))))))
    refine Ue Zot Zou rfl rfl rfl rfl (fun hb38 => ?_) (fun hb38 => ?_)
    ·refine Uf rfl (nmk [1, 2, 4, 5, 6, 8] rfl (U4 (U2 Zov Zow rfl rfl rfl (Uc Zox 3 rfl rfl rfl (U2 Zoy Zoz rfl rfl rfl (U1 rfl (mvs 0 1 rfl rfl (U5 rfl ?_))))))))
     refine U4 (Uc Zp0 4 rfl rfl rfl ?_)
     refine U11 (fun mx_ ax_ wx_ => ∃ (i3 : Nat) (ws3 : List Int) (vrw3 : Value), mx_ = gs.length - i3 ∧ Env 185 [(1, .slice goneA gone.length gonec), (2, .pointer (some ⟨gb1, 0, none⟩)), (4, .pointer (some ⟨gb2, 0, none⟩)), (5, .int .i64 (2 * (d.crs.length : Int))), (6, vrw3), (8, .int .i64 (r : Int)), (9, .int .i64 (i3 : Int))] ax_ ∧ SH wx_ M X [Rs.row Uv vrw3 ws3, Rs.box gb2 24 [.slice none 0 0, .int .i64 0], Rs.box gb1 24 [.slice dcrsA d.crs.length dcrsc, .int .i64 d.loops]] ∧ i3 ≤ gs.length ∧ ws3 = U3t (uE1 d gs) (uE2 d gs) ws2 (2 * i3)) rfl ?_ ?_
     ·intro ax_ hax_
      refine ⟨_, ⟨0, _, _, rfl, hax_.sub ⟨rfl, rfl, rfl, rfl, rfl, rfl, rfl, trivial⟩, S6.pick [0, 1, 2] [_, _, _] (by decide) ⟨rfl, rfl, rfl, trivial⟩, ?hq4f0, ?hq4f1⟩⟩
      case hq4f0 => omega
      case hq4f1 => rfl
     ·rintro m3 a3 w7 ⟨i3, ws3, vrw3, rfl, he3, S7, hi3, hw3⟩
      clear S6
      refine U1u he3 (c := Zp1) rfl ?_
      clear he3 a3
      have hgi := fun (h : i3 < gs.length) => hgs _ (U2m h)
      have hgm := fun (h : i3 < gs.length) => hgo i3 h
      refine U2 Zp2 Zp3 rfl rfl rfl (U2 Zp4 Zp5 rfl rfl rfl (U1 rfl (mvs 0 2 rfl rfl (wlr 2 rfl (U1f rfl rfl rfl rfl rfl rfl uT53) (wlr 3 rfl (U17 rfl rfl rfl) (U5 rfl (nmk [1, 2, 4, 5, 6, 8, 9, 44] rfl (U4 ?_))))))))
      refine Ue Zp6 Zp7 rfl rfl rfl rfl (fun hb44 => ?_) (fun hb44 => ?_)
      ·refine Uf rfl (nmk [1, 2, 4, 5, 6, 8, 9] rfl (U4 (U2 Zp8 Zp9 rfl rfl rfl (Uc Zpa 5 rfl rfl rfl (U2 Zpb Zpc rfl rfl rfl (U1 rfl (mvs 0 1 rfl rfl (U5 rfl ?_))))))))
       refine U4 (Uc Zpd 6 rfl rfl rfl ?_)
       refine U11 (fun mx_ ax_ wx_ => ∃ (k4 : Nat) (ws4 : List Int) (vrw4 : Value), mx_ = 2 - k4 ∧ Env 185 [(1, .slice goneA gone.length gonec), (2, .pointer (some ⟨gb1, 0, none⟩)), (4, .pointer (some ⟨gb2, 0, none⟩)), (5, .int .i64 (2 * (d.crs.length : Int))), (6, vrw4), (8, .int .i64 (r : Int)), (9, .int .i64 (i3 : Int)), (10, .int .i64 (k4 : Int))] ax_ ∧ SH wx_ M X [Rs.row Uv vrw4 ws4, Rs.box gb2 24 [.slice none 0 0, .int .i64 0], Rs.box gb1 24 [.slice dcrsA d.crs.length dcrsc, .int .i64 d.loops]] ∧ k4 ≤ 2 ∧ ws4 = U3t (uE1 d gs) (uE2 d gs) ws2 (2 * i3 + k4)) rfl ?_ ?_
       ·intro ax_ hax_
        refine ⟨_, ⟨0, _, _, rfl, hax_.sub ⟨rfl, rfl, rfl, rfl, rfl, rfl, rfl, rfl, trivial⟩, S7.pick [0, 1, 2] [_, _, _] (by decide) ⟨rfl, rfl, rfl, trivial⟩, ?hq5f0, ?hq5f1⟩⟩
        case hq5f0 => omega
        case hq5f1 => exact hw3
       ·rintro m4 a4 w8 ⟨k4, ws4, vrw4, rfl, he4, S8, hk4, hw4⟩
        clear S7
        refine U1u he4 (c := Zpe) rfl ?_
        clear he4 a4
        have hl4 : ws4.length = 2 * d.crs.length + 1 := by rw [hw4, roundG_len]; exact hl2
        refine U2 Zpf Zpg rfl rfl rfl (U2 Zph Zpi rfl rfl rfl (U1 rfl (mvs 0 1 rfl rfl (wlr 1 rfl (U17 rfl rfl rfl) (U5 rfl (nmk [1, 2, 4, 5, 6, 8, 9, 10, 48] rfl (U4 ?_)))))))
        refine Ue Zpj Zpk rfl rfl rfl rfl (fun hb48 => ?_) (fun hb48 => ?_)
        ·have hgi3 := hgi (by omega)
         have hgm3 := hgm (by omega)
         have hba1 := U2b hab hgi3 (k := k4) (by omega)
         have hba2 := U2b hab hgi3 (k := k4 + 2) (by omega)
         refine Uf rfl (nmk [1, 2, 4, 5, 6, 8, 9, 10] rfl (U4 (U2 Zpl Zpm rfl rfl rfl (Uc Zpn 7 rfl rfl rfl (Ux rfl (by kernel_rfl) S8 19 rfl ?_)))))
         clear S8
         refine wap 0 18 rfl (by kernel_rfl) (fun _ => run_move rfl rfl) ?_
         refine wat 1 17 rfl (by kernel_rfl) (fun _ _ _ hz Sz => .inl (U8 (us := [_, _]) rfl rfl uT24 rfl sz24 (Sz.suf.boxcs (i := 2) rfl ⟨rfl, rfl, trivial⟩))) ?_
         refine wap 2 16 rfl (by kernel_rfl) (fun _ => run_move rfl rfl) ?_
         refine wap 3 15 rfl (by kernel_rfl) (fun _ => run_move rfl rfl) ?_
         refine wat 4 14 rfl (by kernel_rfl) (fun _ _ _ hz Sz => .inl (Uj (C := Uv) i3 rfl rfl rfl sl53 (by first | rfl | omega) (hgone.mono (Hp.Ua hz Sz.mx)) (by first | omega | (simp only [ls]; omega)))) ?_
         refine wat 5 13 rfl (by kernel_rfl) (fun _ _ _ hz Sz => .inl (U3 rfl rfl uT3 rfl ((hgone.mono (Hp.Ua hz Sz.mx)).cell Sz.um (i := i3) (by first | omega | (simp only [ls]; omega)) 0 rfl rfl))) ?_
         refine wa_eq 56 (.int .i64 ((ga gs i3 : Nat) : Int)) rfl (int_eq hgm3) (wap 6 12 rfl (by kernel_rfl) (fun _ => run_move rfl rfl) ?_)
         refine wat 7 11 rfl (by kernel_rfl) (fun _ _ _ hz Sz => .inl (run_build (l := [_, _]) rfl rfl st120 rfl rfl)) ?_
         refine wat 8 10 rfl (by kernel_rfl) (fun _ _ _ hz Sz => Uq rfl rfl rfl rfl rfl cf72 Sz (ArcAt_q d (ga gs i3) k4 ((hdcrs.mono (Hp.Ua hz Sz.mx)).mono Sz.Uw) (by omega) (by omega) Sz.lend)) ?_
         refine wat 9 9 rfl (by kernel_rfl) (fun _ _ _ hz Sz => .inl (U8 (us := [_, _]) rfl rfl uT24 rfl sz24 (Sz.suf.boxcs (i := 2) rfl ⟨rfl, rfl, trivial⟩))) ?_
         refine wap 10 8 rfl (by kernel_rfl) (fun _ => run_move rfl rfl) ?_
         refine wap 11 7 rfl (by kernel_rfl) (fun _ => run_move rfl rfl) ?_
         refine wat 12 6 rfl (by kernel_rfl) (fun _ _ _ hz Sz => .inl (Uj (C := Uv) i3 rfl rfl rfl sl53 (by first | rfl | omega) (hgone.mono (Hp.Ua hz Sz.mx)) (by first | omega | (simp only [ls]; omega)))) ?_
         refine wat 13 5 rfl (by kernel_rfl) (fun _ _ _ hz Sz => .inl (U3 rfl rfl uT3 rfl ((hgone.mono (Hp.Ua hz Sz.mx)).cell Sz.um (i := i3) (by first | omega | (simp only [ls]; omega)) 0 rfl rfl))) ?_
         refine wa_eq 64 (.int .i64 ((ga gs i3 : Nat) : Int)) rfl (int_eq hgm3) (wap 14 4 rfl (by kernel_rfl) (fun _ => run_move rfl rfl) ?_)
         refine wap 15 3 rfl (by kernel_rfl) (fun _ => Ug rfl rfl rfl (by first | omega | (simp only [ls]; omega))) ?_
         refine wa_eq 66 (.int .i64 ((k4 + 2 : Nat) : Int)) rfl (int_eq (by omega)) ?_
         refine wat 16 2 rfl (by kernel_rfl) (fun _ _ _ hz Sz => .inl (run_build (l := [_, _]) rfl rfl st120 rfl rfl)) ?_
         refine wat 17 1 rfl (by kernel_rfl) (fun _ _ _ hz Sz => Uq rfl rfl rfl rfl rfl cf72 Sz (ArcAt_q d (ga gs i3) (k4 + 2) ((hdcrs.mono (Hp.Ua hz Sz.mx)).mono Sz.Uw) (by omega) (by omega) Sz.lend)) ?_
         refine Um (i := 18) 0 rfl (by kernel_rfl) rfl rfl (fun w28 S28 => ?_)
         refine (wo_c1 rfl rfl rfl rfl rfl rfl rfl cf76 S28 (i := 0) rfl (level_w vrw4 _ (U1g d (ga gs i3) k4) (U1g d (ga gs i3) (k4 + 2)) (by omega) (by omega) (S28.lend1 (i := 0) rfl)) ?_)
         rintro vw29 w29 _ _ - S29 ⟨rfl, rfl, rfl⟩; clear S28
         change SH _ _ _ [_, _, _] at S29
         refine U10.turn (by kernel_rfl) S29 ?_; clear S29
         change WA _ _ _ _ _ _ _ _ _ _ _ _ [_, _, _]
         refine Uu (by kernel_rfl) (fun w30 S30 => ?_)
         refine U12 (nmk [1, 2, 4, 5, 6, 8, 9, 10] rfl (U4 (U1 rfl (mvs 0 1 rfl rfl (wlr 1 rfl (Ug rfl rfl rfl (by first | omega | (simp only [ls]; omega))) ?_)))))
         refine mvs 2 1 rfl rfl (U5 rfl (U15 ?_))
         intro ax_ hax_
         refine ⟨_, ?hq6m, ⟨k4 + 1, _, _, rfl, hax_.sub ⟨rfl, rfl, rfl, rfl, rfl, rfl, rfl, rfl, trivial⟩, S30.pick [0, 1, 2] [_, _, _] (by decide) ⟨rfl, rfl, rfl, trivial⟩, ?hq6f0, ?hq6f1⟩⟩
         case hq6f0 => omega
         case hq6f1 => (show _ = stepW (U3t (uE1 d gs) (uE2 d gs) ws2 (2 * i3 + k4)) (uE1 d gs (2 * i3 + k4)) (uE2 d gs (2 * i3 + k4)); obtain ⟨u1, u2⟩ := uE_at (d := d) (gs := gs) (i := i3) (k := k4) (by omega); rw [← hw4, u1, u2])
         case hq6m => omega
        ·refine U16 rfl rfl (U12 (nmk [1, 2, 4, 5, 6, 8, 9] rfl (U4 (U1 rfl (mvs 0 1 rfl rfl (wlr 1 rfl (Ug rfl rfl rfl (by first | omega | (simp only [ls]; omega))) ?_))))))
         refine mvs 2 1 rfl rfl (U5 rfl (U15 ?_))
         intro ax_ hax_
         refine ⟨_, ?hq7m, ⟨i3 + 1, _, _, rfl, hax_.sub ⟨rfl, rfl, rfl, rfl, rfl, rfl, rfl, trivial⟩, S8.pick [0, 1, 2] [_, _, _] (by decide) ⟨rfl, rfl, rfl, trivial⟩, ?hq7f0, ?hq7f1⟩⟩
         case hq7f0 => omega
         case hq7f1 => (obtain rfl : k4 = 2 := (by omega); exact hw4)
         case hq7m => omega
      ·refine U16 rfl rfl (U12 (nmk [1, 2, 4, 5, 6, 8] rfl (U4 (U1 rfl (mvs 0 1 rfl rfl (wlr 1 rfl (Ug rfl rfl rfl (by first | omega | (simp only [ls]; omega))) ?_))))))
       refine mvs 2 1 rfl rfl (U5 rfl (U15 ?_))
       intro ax_ hax_
       refine ⟨_, ?hq8m, ⟨r + 1, _, _, rfl, hax_.sub ⟨rfl, rfl, rfl, rfl, rfl, rfl, trivial⟩, S7.pick [0, 1, 2] [_, _, _] (by decide) ⟨rfl, rfl, rfl, trivial⟩, ?hq8f0, ?hq8f1⟩⟩
       case hq8f0 => omega
       case hq8f1 => (obtain rfl : i3 = gs.length := (by omega); rw [hw3, hw2]; rfl)
       case hq8m => omega
    ·refine U16 rfl rfl (nmk [1, 2, 4, 5, 6] rfl (U4 (U2 Zpo Zpp rfl rfl rfl ?_)))
     obtain rfl : r = 2 * d.crs.length + 1 := by omega
     have hclf : ws2 = tC d (inG gs) := by rw [hw2]; exact tu_law hab hgs
     have hok : ∀ x, x < 2 * d.crs.length + 1 → 0 ≤ ga ws2 x ∧ ga ws2 x ≤ x ∧ ga ws2 (ga ws2 x).toNat = ga ws2 x := by rw [hclf]; exact (tCN_ok hab (inG gs) _ (Nat.le_refl _)).2
     have hl2 : ws2.length = 2 * d.crs.length + 1 := by rw [hclf]; exact tCN_len _ _ _
     clear hw2
     obtain ⟨cl, rfl⟩ : ∃ cl, cl = ws2 := ⟨_, rfl⟩
     obtain ⟨oc, hocf⟩ : ∃ oc, oc = tR d (inG gs) := ⟨_, rfl⟩
     refine U1 rfl (mvs 0 1 rfl rfl (wlr 1 rfl (Ug rfl rfl rfl (by first | omega | (simp only [ls]; omega))) ?_))
     refine wlo 2 3 rfl rfl rfl (wo_make (C := U2f) ((2 * (d.crs.length : Int)).toNat + 1) rfl rfl rfl rfl rfl sl130 (by first | rfl | omega) (by show _ * 1 ≤ _; first | omega | (simp only [ls]; omega)) S6 ?_)
     intro vr2 w31 S31; clear S6
     refine mvs 3 1 rfl rfl (U5 rfl (nmk [1, 2, 4, 5, 6, 11] rfl (U4 (U2 Zpq Zpr rfl rfl rfl (U1 rfl (wlr 0 rfl (U0 rfl rfl uT24 rfl (ce3) (nf3)) (wlr 1 rfl (U3 rfl rfl uT3 rfl (S31.boxc (i := 3) rfl rfl)) (U1t 74 (.int .i64 (d.loops + (cn (loB2 cl oc) (0 + 1) : Int))) rfl (int_eq (by rw [show cn (loB2 cl oc) (0 + 1) = 0 from rfl]; omega)) ?_))))))))
     refine wlr 2 rfl (run_build (l := [_, _]) rfl rfl st24 rfl rfl) (wlo 3 4 rfl rfl rfl (Uh (l := [_, _]) rfl rfl rfl zr24 rfl S31 ?_))
     intro gb3 w32 S32; clear S31
     refine wlo 4 5 rfl rfl rfl (U7 (i := 0) (us := [_, _]) (l' := [_, _]) (H' := [_, _, _, _, _]) rfl rfl S32 rfl rfl rfl rfl sz24 rfl rfl rfl rfl ?_)
     intro w33 S33; clear S32
     refine U5 rfl (nmk [1, 2, 4, 5, 6, 11, 12] rfl (U4 (U2 Zps Zpt rfl rfl rfl (U2 Zpu Zpv rfl rfl rfl (U1 rfl (mvs 0 1 rfl rfl (U5 rfl (U4 ?_))))))))
     refine Uc Zpw 8 rfl rfl rfl ?_
     refine U11 (fun mx_ ax_ wx_ => ∃ (i2 : Nat) (th : List Bool) (vrt : Value), mx_ = d.crs.length - i2 ∧ Env 185 [(1, .slice goneA gone.length gonec), (2, .pointer (some ⟨gb1, 0, none⟩)), (4, .pointer (some ⟨gb2, 0, none⟩)), (5, .int .i64 (2 * (d.crs.length : Int))), (6, vrw2), (11, vrt), (12, .pointer (some ⟨gb3, 0, none⟩)), (13, .int .i64 (i2 : Int))] ax_ ∧ SH wx_ M X [Rs.box gb3 24 [.slice none 0 0, .int .i64 (d.loops + (cn (loB2 cl oc) (0 + 1) : Int))], Rs.row U2f vrt th, Rs.row Uv vrw2 cl, Rs.box gb2 24 [.slice none 0 0, .int .i64 0], Rs.box gb1 24 [.slice dcrsA d.crs.length dcrsc, .int .i64 d.loops]] ∧ i2 ≤ d.crs.length ∧ th.length = 2 * d.crs.length + 1 ∧ (∀ x, x < 2 * d.crs.length + 1 → ga th x = lfL cl (tRN d (inG gs) i2) (x : Int))) rfl ?_ ?_
     ·intro ax_ hax_
      refine ⟨_, ⟨0, _, _, rfl, hax_.sub ⟨rfl, rfl, rfl, rfl, rfl, rfl, rfl, rfl, trivial⟩, S33.pick [0, 1, 2, 3, 4] [_, _, _, _, _] (by decide) ⟨rfl, rfl, rfl, rfl, rfl, trivial⟩, ?hq9f0, ?hq9f1, ?hq9f2⟩⟩
      case hq9f0 => omega
      case hq9f1 => (rw [List.length_replicate]; omega)
      case hq9f2 => (intro x hx; rw [ga_rep _ _ _ (by omega)]; rfl)
     ·rintro m5 a5 w34 ⟨i2, th, vrt, rfl, he5, S34, hi2, htl, hth⟩
      clear S33
      refine U1u he5 (c := Zpx) rfl ?_
      clear he5 a5
      have hcg2 := hcg i2
      refine U2 Zpy Zpz rfl rfl rfl (U2 Zq0 Zq1 rfl rfl rfl (U1 rfl (mvs 0 1 rfl rfl (wlr 1 rfl (U0 rfl rfl uT24 rfl (ce22) (nf22)) (wlr 2 rfl (U3 rfl rfl uT22 rfl (S34.boxc (i := 4) rfl rfl)) (wlr 3 rfl (U1f rfl rfl rfl rfl rfl rfl uT22) (wlr 4 rfl (U17 rfl rfl rfl) (U5 rfl ?_))))))))
      refine nmk [1, 2, 4, 5, 6, 11, 12, 13, 80] rfl (U4 ?_)
      refine Ue Zq2 Zq3 rfl rfl rfl rfl (fun hb80 => ?_) (fun hb80 => ?_)
      ·refine Uf rfl (nmk [1, 2, 4, 5, 6, 11, 12, 13] rfl (U4 (U2 Zq4 Zq5 rfl rfl rfl (Uc Zq6 9 rfl rfl rfl (U2 Zq7 Zq8 rfl rfl rfl (U1 rfl (mvs 0 2 rfl rfl (wlo 2 3 rfl rfl rfl (U20 rfl rfl rfl rfl rfl rfl rfl cf77 S34 (within_q gone (i2 : Int) (hgone.mono S34.Uw) S34.lend) ?_)))))))))
       rintro _ w35 S35 rfl; clear S34
       refine wlr 3 rfl (U1j rfl rfl) (U5 rfl (nmk [1, 2, 4, 5, 6, 11, 12, 13, 86] rfl (U4 ?_)))
       refine U19 Zq9 Zqa rfl rfl rfl rfl (fun hb86 => ?_) (fun hb86 => ?_)
       ·simp only [Bool.and_eq_true, Bool.or_eq_true, Bool.and_eq_false_iff, Bool.or_eq_false_iff, decide_eq_true_eq, decide_eq_false_iff_not, Bool.not_eq_true', Bool.not_eq_false'] at hb86
        refine U2 Zqb Zqc rfl rfl rfl (U1 rfl (mvs 0 1 rfl rfl (U5 rfl (nmk [1, 2, 4, 5, 6, 11, 12, 13, 14] rfl (U4 (Uc Zqd 10 rfl rfl rfl ?_))))))
        refine U11 (fun mx_ ax_ wx_ => ∃ (s3 : Nat) (tc : List Bool) (vrt3 : Value), mx_ = 4 - s3 ∧ Env 185 [(1, .slice goneA gone.length gonec), (2, .pointer (some ⟨gb1, 0, none⟩)), (4, .pointer (some ⟨gb2, 0, none⟩)), (5, .int .i64 (2 * (d.crs.length : Int))), (6, vrw2), (11, vrt3), (12, .pointer (some ⟨gb3, 0, none⟩)), (13, .int .i64 (i2 : Int)), (14, .int .i64 (s3 : Int))] ax_ ∧ SH wx_ M X [Rs.box gb3 24 [.slice none 0 0, .int .i64 (d.loops + (cn (loB2 cl oc) (0 + 1) : Int))], Rs.row U2f vrt3 tc, Rs.row Uv vrw2 cl, Rs.box gb2 24 [.slice none 0 0, .int .i64 0], Rs.box gb1 24 [.slice dcrsA d.crs.length dcrsc, .int .i64 d.loops]] ∧ s3 ≤ 4 ∧ tc.length = 2 * d.crs.length + 1 ∧ (∀ x, x < 2 * d.crs.length + 1 → ga tc x = (lfL cl (tRN d (inG gs) i2) (x : Int) || lf1 cl (ga d.crs i2) s3 (x : Int)))) rfl ?_ ?_
        ·intro ax_ hax_
         refine ⟨_, ⟨0, _, _, rfl, hax_.sub ⟨rfl, rfl, rfl, rfl, rfl, rfl, rfl, rfl, rfl, trivial⟩, S35.pick [0, 1, 2, 3, 4] [_, _, _, _, _] (by decide) ⟨rfl, rfl, rfl, rfl, rfl, trivial⟩, ?hq10f0, ?hq10f1, ?hq10f2⟩⟩
         case hq10f0 => omega
         case hq10f1 => exact htl
         case hq10f2 => (intro x hx; rw [lf1, Bool.or_false]; exact hth x hx)
        ·rintro m6 a6 w36 ⟨s3, tc, vrt3, rfl, he6, S36, hs3, htcl, htc⟩
         clear S35
         refine U1u he6 (c := Zqe) rfl ?_
         clear he6 a6
         have hab3 := fun h => U2b hab (i := i2) (by omega) (k := s3) h
         refine U2 Zqf Zqg rfl rfl rfl (U2 Zqh Zqi rfl rfl rfl (U1 rfl (mvs 0 1 rfl rfl (wlr 1 rfl (U17 rfl rfl rfl) (U5 rfl (nmk [1, 2, 4, 5, 6, 11, 12, 13, 14, 88] rfl (U4 ?_)))))))
         refine Ue Zqj Zqk rfl rfl rfl rfl (fun hb88 => ?_) (fun hb88 => ?_)
         ·refine Uf rfl (nmk [1, 2, 4, 5, 6, 11, 12, 13, 14] rfl (U4 (U2 Zql Zqm rfl rfl rfl (Uc Zqn 11 rfl rfl rfl ?_))))
          have hab3s := hab3 (by omega)
          have hok3 := hok (U1g d i2 s3).toNat (by omega)
          refine U1 rfl (mvs 0 2 rfl rfl (wlr 2 rfl (U8 (us := [_, _]) rfl rfl uT24 rfl sz24 (S36.boxcs (i := 4) rfl ⟨rfl, rfl, trivial⟩)) (mvs 3 2 rfl rfl (wlr 5 rfl (run_build (l := [_, _]) rfl rfl st120 rfl rfl) (wlo 6 7 rfl rfl rfl (U20 rfl rfl rfl rfl rfl rfl rfl cf72 S36 (ArcAt_q d i2 s3 (hdcrs.mono S36.Uw) (by omega) (by omega) S36.lend) ?_))))))
          rintro _ w37 S37 rfl; clear S36
          refine wlr 7 rfl (Ui (C := Uv) (i := 2) ((U1g d i2 s3).toNat) rfl rfl rfl sl53 S37 rfl (by first | rfl | omega) (by first | omega | (simp only [ls]; omega))) ?_
          refine wlr 8 rfl (U3 rfl rfl uT3 rfl (S37.rowc (i := 2) (e := (U1g d i2 s3).toNat) (j := 0) rfl (by first | omega | (simp only [ls]; omega)) rfl rfl)) ?_
          refine wlr 9 rfl (Ui (C := U2f) (i := 1) ((ga cl ((U1g d i2 s3).toNat)).toNat) rfl rfl rfl sl130 S37 rfl (by first | rfl | omega) (by first | omega | (simp only [ls]; omega))) ?_
          refine wlo 10 11 rfl rfl rfl (U1i (C := U2f) (i := 1) (e := (ga cl ((U1g d i2 s3).toNat)).toNat) (j := 0) (us := [_]) (H' := [_, _, _, _, _]) true rfl rfl S37 rfl (by first | omega | (simp only [ls]; omega)) rfl rfl rfl sz4 rfl rfl rfl rfl ?_)
          intro w38 S38; clear S37
          refine U5 rfl (U12 (nmk [1, 2, 4, 5, 6, 11, 12, 13, 14] rfl (U4 (U1 rfl (mvs 0 1 rfl rfl (wlr 1 rfl (Ug rfl rfl rfl (by first | omega | (simp only [ls]; omega))) ?_))))))
          refine mvs 2 1 rfl rfl (U5 rfl (U15 ?_))
          intro ax_ hax_
          refine ⟨_, ?hq11m, ⟨s3 + 1, _, _, rfl, hax_.sub ⟨rfl, rfl, rfl, rfl, rfl, rfl, rfl, rfl, rfl, trivial⟩, S38.pick [0, 1, 2, 3, 4] [_, _, _, _, _] (by decide) ⟨rfl, rfl, rfl, rfl, rfl, trivial⟩, ?hq11f0, ?hq11f1, ?hq11f2⟩⟩
          case hq11f0 => omega
          case hq11f1 => simpa using htcl
          case hq11f2 => (intro x hx; have hq := htc x hx; rw [U1y _ _ _ _ (by omega), lf1]; by_cases e9 : (x : Int) = ga cl (U24 (ga d.crs i2) s3).toNat; (rw [if_pos (show (ga cl (U1g d i2 s3).toNat).toNat = x by unfold U1g; omega)]; simp [e9]); (rw [if_neg (show ¬ (ga cl (U1g d i2 s3).toNat).toNat = x by (unfold U1g at *; omega)), hq]; simp [e9]))
          case hq11m => omega
         ·refine U16 rfl rfl (U12 (nmk [1, 2, 4, 5, 6, 11, 12, 13] rfl (U4 (U1 rfl (mvs 0 1 rfl rfl (wlr 1 rfl (Ug rfl rfl rfl (by first | omega | (simp only [ls]; omega))) ?_))))))
          refine mvs 2 1 rfl rfl (U5 rfl (U15 ?_))
          intro ax_ hax_
          refine ⟨_, ?hq12m, ⟨i2 + 1, _, _, rfl, hax_.sub ⟨rfl, rfl, rfl, rfl, rfl, rfl, rfl, rfl, trivial⟩, S36.pick [0, 1, 2, 3, 4] [_, _, _, _, _] (by decide) ⟨rfl, rfl, rfl, rfl, rfl, trivial⟩, ?hq12f0, ?hq12f1, ?hq12f2⟩⟩
          case hq12f0 => omega
          case hq12f1 => assumption
          case hq12f2 => first | (intro x hx; rw [tRN, if_pos (by rw [← hcg2]; simpa using hb86)]; exact hth x hx) | (intro x hx; rw [tRN, if_neg (by rw [← hcg2]; simpa using hb86), lfL_snoc, htc x hx, show s3 = 4 by omega])
          case hq12m => omega
       ·simp only [Bool.and_eq_true, Bool.or_eq_true, Bool.and_eq_false_iff, Bool.or_eq_false_iff, decide_eq_true_eq, decide_eq_false_iff_not, Bool.not_eq_true', Bool.not_eq_false'] at hb86
        refine Uf rfl (U12 (nmk [1, 2, 4, 5, 6, 11, 12, 13] rfl (U4 (U1 rfl (mvs 0 1 rfl rfl (wlr 1 rfl (Ug rfl rfl rfl (by first | omega | (simp only [ls]; omega))) ?_))))))
        refine mvs 2 1 rfl rfl (U5 rfl (U15 ?_))
        intro ax_ hax_
        refine ⟨_, ?hq13m, ⟨i2 + 1, _, _, rfl, hax_.sub ⟨rfl, rfl, rfl, rfl, rfl, rfl, rfl, rfl, trivial⟩, S35.pick [0, 1, 2, 3, 4] [_, _, _, _, _] (by decide) ⟨rfl, rfl, rfl, rfl, rfl, trivial⟩, ?hq13f0, ?hq13f1, ?hq13f2⟩⟩
        case hq13f0 => omega
        case hq13f1 => assumption
        case hq13f2 => first | (intro x hx; rw [tRN, if_pos (by rw [← hcg2]; simpa using hb86)]; exact hth x hx) | (intro x hx; rw [tRN, if_neg (by rw [← hcg2]; simpa using hb86), lfL_snoc, htc x hx, show s3 = 4 by omega])
        case hq13m => omega
      ·refine U16 rfl rfl (nmk [1, 2, 4, 5, 6, 11, 12] rfl (U4 (U2 Zqo Zqp rfl rfl rfl ?_)))
       obtain rfl : i2 = d.crs.length := by omega
       have hlf : ∀ x, x < 2 * d.crs.length + 1 → ga th x = lfL cl oc (x : Int) := fun x hx => by rw [hocf]; exact hth x hx
       clear hth
       refine U1 rfl (mvs 0 1 rfl rfl (wlr 1 rfl (Ug rfl rfl rfl (by first | omega | (simp only [ls]; omega))) ?_))
       refine wlo 2 3 rfl rfl rfl (wo_make (C := Uv) ((2 * (d.crs.length : Int)).toNat + 1) rfl rfl rfl rfl rfl sl53 (by first | rfl | omega) (by show _ * 8 ≤ _; first | omega | (simp only [ls]; omega)) S34 ?_)
       intro vr3 w39 S39; clear S34
       refine mvs 3 1 rfl rfl (U5 rfl (nmk [1, 2, 4, 5, 6, 11, 12, 15] rfl (U4 (U2 Zqq Zqr rfl rfl rfl (U1 rfl (mvs 0 1 rfl rfl (U5 rfl (U4 ?_))))))))
       refine U2 Zqs Zqt rfl rfl rfl (U2 Zqu Zqv rfl rfl rfl (U1 rfl (mvs 0 1 rfl rfl (U5 rfl (U4 (Uc Zqw 12 rfl rfl rfl ?_))))))
       refine U11 (fun mx_ ax_ wx_ => ∃ (x6 : Nat) (nu : List Int) (vrn : Value), mx_ = 2 * d.crs.length - x6 ∧ Env 185 [(1, .slice goneA gone.length gonec), (2, .pointer (some ⟨gb1, 0, none⟩)), (4, .pointer (some ⟨gb2, 0, none⟩)), (5, .int .i64 (2 * (d.crs.length : Int))), (6, vrw2), (11, vrt), (12, .pointer (some ⟨gb3, 0, none⟩)), (15, vrn), (16, .int .i64 ((cn (rtB2 cl oc) (x6 + 1) + 1 : Nat) : Int)), (17, .int .i64 ((x6 + 1 : Nat) : Int))] ax_ ∧ SH wx_ M X [Rs.row Uv vrn nu, Rs.box gb3 24 [.slice none 0 0, .int .i64 (d.loops + (cn (loB2 cl oc) (x6 + 1) : Int))], Rs.row U2f vrt th, Rs.row Uv vrw2 cl, Rs.box gb2 24 [.slice none 0 0, .int .i64 0], Rs.box gb1 24 [.slice dcrsA d.crs.length dcrsc, .int .i64 d.loops]] ∧ x6 ≤ 2 * d.crs.length ∧ nu.length = 2 * d.crs.length + 1 ∧ (∀ x, x < x6 + 1 → rtB2 cl oc x = true → ga nu x = (cn (rtB2 cl oc) (x + 1) : Int))) rfl ?_ ?_
       ·intro ax_ hax_
        refine ⟨_, ⟨0, _, _, rfl, hax_.sub ⟨rfl, rfl, rfl, rfl, rfl, rfl, rfl, rfl, rfl, rfl, trivial⟩, S39.pick [0, 1, 2, 3, 4, 5] [_, _, _, _, _, _] (by decide) ⟨rfl, rfl, rfl, rfl, rfl, rfl, trivial⟩, ?hq14f0, ?hq14f1, ?hq14f2⟩⟩
        case hq14f0 => omega
        case hq14f1 => (rw [List.length_replicate]; omega)
        case hq14f2 => (intro x hx h9; obtain rfl : x = 0 := (by omega); cases h9)
       ·rintro m7 a7 w40 ⟨x6, nu, vrn, rfl, he7, S40, ha6, hnl, hnu⟩
        clear S39
        refine U1u he7 (c := Zqx) rfl ?_
        clear he7 a7
        have hcn1 := cn_le (rtB2 cl oc) (x6 + 1)
        have hcn2 := cn_le (loB2 cl oc) (x6 + 1)
        have hok6 := fun h => hok (x6 + 1) h
        refine U2 Zqy Zqz rfl rfl rfl (U2 Zr0 Zr1 rfl rfl rfl (U1 rfl (mvs 0 2 rfl rfl (wlr 2 rfl (U41 rfl rfl rfl) (U5 rfl (nmk [1, 2, 4, 5, 6, 11, 12, 15, 16, 17, 106] rfl (U4 ?_)))))))
        refine Ue Zr2 Zr3 rfl rfl rfl rfl (fun hb106 => ?_) (fun hb106 => ?_)
        ·refine Uf rfl (nmk [1, 2, 4, 5, 6, 11, 12, 15, 16, 17] rfl (U4 (U2 Zr4 Zr5 rfl rfl rfl (Uc Zr6 13 rfl rfl rfl (U2 Zr7 Zr8 rfl rfl rfl (U1 rfl (mvs 0 2 rfl rfl (wlr 2 rfl (Ui (C := U2f) (i := 2) (x6 + 1) rfl rfl rfl sl130 S40 rfl (by first | rfl | omega) (by first | omega | (simp only [ls]; omega))) ?_))))))))
         refine wlr 3 rfl (U3 rfl rfl uT4 rfl (S40.rowc (i := 2) (e := x6 + 1) (j := 0) rfl (by first | omega | (simp only [ls]; omega)) rfl rfl)) ?_
         refine U5 rfl (nmk [1, 2, 4, 5, 6, 11, 12, 15, 16, 17, 112] rfl (U4 ?_))
         refine U19 Zr9 Zra rfl rfl rfl rfl (fun hb112 => ?_) (fun hb112 => ?_)
         ·have hlx := hlf (x6 + 1) (by omega)
          obtain ⟨hq1, hq2, hq3⟩ := tlf_root hab (gn := inG gs) (x := x6 + 1) (by rw [← hclf, ← hocf, ← hlx]; exact hb112)
          rw [← hclf] at hq3
          have hrt : rtB2 cl oc (x6 + 1) = true := by unfold rtB2; rw [decide_eq_true hq3, ← hlx]; simp; exact hb112
          have hlo : loB2 cl oc (x6 + 1) = false := by unfold loB2; rw [← hlx]; simp; intro _; exact hb112
          refine U2 Zrb Zrc rfl rfl rfl (U1 rfl (mvs 0 3 rfl rfl (wlr 3 rfl (Ui (C := Uv) (i := 0) (x6 + 1) rfl rfl rfl sl53 S40 rfl (by first | rfl | omega) (by first | omega | (simp only [ls]; omega))) ?_)))
          refine wlo 4 5 rfl rfl rfl (U1i (C := Uv) (i := 0) (e := x6 + 1) (j := 0) (us := [_]) (H' := [_, _, _, _, _, _]) ((cn (rtB2 cl oc) (x6 + 1) + 1 : Nat) : Int) rfl rfl S40 rfl (by first | omega | (simp only [ls]; omega)) rfl rfl rfl sz3 rfl rfl rfl rfl ?_)
          intro w41 S41; clear S40
          refine U5 rfl (nmk [1, 2, 4, 5, 6, 11, 12, 15, 16, 17] rfl (U4 (U1 rfl (mvs 0 1 rfl rfl (wlr 1 rfl (Ug rfl rfl rfl (by first | omega | (simp only [ls]; omega))) ?_)))))
          refine mvs 2 1 rfl rfl (U5 rfl (U12 (nmk [1, 2, 4, 5, 6, 11, 12, 15, 16, 17] rfl (U4 (ws_eq 16 (.int .i64 ((cn (rtB2 cl oc) (x6 + 1 + 1) + 1 : Nat) : Int)) rfl (int_eq (by rw [cn_yes hrt]; omega)) ?_)))))
          rw [← cn_no hlo] at S41
          refine U1 rfl (mvs 0 1 rfl rfl (wlr 1 rfl (Ug rfl rfl rfl (by first | omega | (simp only [ls]; omega))) ?_))
          refine mvs 2 1 rfl rfl (U5 rfl (U15 ?_))
          intro ax_ hax_
          refine ⟨_, ?hq15m, ⟨x6 + 1, _, _, rfl, hax_.sub ⟨rfl, rfl, rfl, rfl, rfl, rfl, rfl, rfl, rfl, rfl, trivial⟩, S41.pick [0, 1, 2, 3, 4, 5] [_, _, _, _, _, _] (by decide) ⟨rfl, rfl, rfl, rfl, rfl, rfl, trivial⟩, ?hq15f0, ?hq15f1, ?hq15f2⟩⟩
          case hq15f0 => omega
          case hq15f1 => first | assumption | simpa using hnl
          case hq15f2 => first | (intro x hx h9; by_cases e : x = x6 + 1; (subst e; rw [U1y _ _ _ _ (by omega), if_pos rfl, cn_yes h9]); (rw [U1y _ _ _ _ (by omega), if_neg (fun h => e h.symm)]; exact hnu x (by omega) h9)) | (intro x hx h9; by_cases e : x = x6 + 1; (subst e; rw [hrt] at h9; cases h9); exact hnu x (by omega) h9)
          case hq15m => omega
         ·refine U2 Zrd Zre rfl rfl rfl (U1 rfl (mvs 0 2 rfl rfl (wlr 2 rfl (Ui (C := Uv) (i := 3) (x6 + 1) rfl rfl rfl sl53 S40 rfl (by first | rfl | omega) (by first | omega | (simp only [ls]; omega))) ?_)))
          refine wlr 3 rfl (U3 rfl rfl uT3 rfl (S40.rowc (i := 3) (e := x6 + 1) (j := 0) rfl (by first | omega | (simp only [ls]; omega)) rfl rfl)) ?_
          refine mvs 4 1 rfl rfl (wlr 5 rfl (Uz rfl rfl rfl) (U5 rfl (nmk [1, 2, 4, 5, 6, 11, 12, 15, 16, 17, 124] rfl (U4 ?_))))
          refine Ue Zrf Zrg rfl rfl rfl rfl (fun hb124 => ?_) (fun hb124 => ?_)
          ·have hlx := hlf (x6 + 1) (by omega)
           have hrt : rtB2 cl oc (x6 + 1) = false := by unfold rtB2; rw [← hlx]; simp; intro _; exact hb112
           have hlo : loB2 cl oc (x6 + 1) = true := by unfold loB2; rw [decide_eq_true (show ga cl (x6 + 1) = ((x6 + 1 : Nat) : Int) from hb124), ← hlx]; simp; exact hb112
           refine U1 rfl (wlr 0 rfl (U0 rfl rfl uT24 rfl (ce3) (nf3)) (wlr 1 rfl (U3 rfl rfl uT3 rfl (S40.boxc (i := 1) rfl rfl)) (wlr 2 rfl (Ug rfl rfl rfl (by first | omega | (simp only [ls]; omega))) ?_)))
           refine wlr 3 rfl (U0 rfl rfl uT24 rfl (ce3) (nf3)) (wlo 4 5 rfl rfl rfl (U7 (i := 1) (us := [_]) (l' := [_, _]) (H' := [_, _, _, _, _, _]) rfl rfl S40 rfl rfl rfl rfl sz3 rfl rfl rfl rfl ?_))
           intro w42 S42; clear S40
           refine U5 rfl (U12 (nmk [1, 2, 4, 5, 6, 11, 12, 15, 16, 17] rfl (U4 (ws_eq 16 (.int .i64 ((cn (rtB2 cl oc) (x6 + 1 + 1) + 1 : Nat) : Int)) rfl (int_eq (by rw [cn_no hrt])) ?_))))
           rw [cast_add2, ← cn_yes hlo] at S42
           refine U1 rfl (mvs 0 1 rfl rfl (wlr 1 rfl (Ug rfl rfl rfl (by first | omega | (simp only [ls]; omega))) ?_))
           refine mvs 2 1 rfl rfl (U5 rfl (U15 ?_))
           intro ax_ hax_
           refine ⟨_, ?hq16m, ⟨x6 + 1, _, _, rfl, hax_.sub ⟨rfl, rfl, rfl, rfl, rfl, rfl, rfl, rfl, rfl, rfl, trivial⟩, S42.pick [0, 1, 2, 3, 4, 5] [_, _, _, _, _, _] (by decide) ⟨rfl, rfl, rfl, rfl, rfl, rfl, trivial⟩, ?hq16f0, ?hq16f1, ?hq16f2⟩⟩
           case hq16f0 => omega
           case hq16f1 => first | assumption | simpa using hnl
           case hq16f2 => first | (intro x hx h9; by_cases e : x = x6 + 1; (subst e; rw [U1y _ _ _ _ (by omega), if_pos rfl, cn_yes h9]); (rw [U1y _ _ _ _ (by omega), if_neg (fun h => e h.symm)]; exact hnu x (by omega) h9)) | (intro x hx h9; by_cases e : x = x6 + 1; (subst e; rw [hrt] at h9; cases h9); exact hnu x (by omega) h9)
           case hq16m => omega
          ·have hlx := hlf (x6 + 1) (by omega)
           have hrt : rtB2 cl oc (x6 + 1) = false := by unfold rtB2; rw [← hlx]; simp; intro _; exact hb112
           have hlo : loB2 cl oc (x6 + 1) = false := by unfold loB2; rw [decide_eq_false (show ¬ ga cl (x6 + 1) = ((x6 + 1 : Nat) : Int) from hb124)]; simp
           refine Uf rfl (U12 (nmk [1, 2, 4, 5, 6, 11, 12, 15, 16, 17] rfl (U4 (ws_eq 16 (.int .i64 ((cn (rtB2 cl oc) (x6 + 1 + 1) + 1 : Nat) : Int)) rfl (int_eq (by rw [cn_no hrt])) ?_))))
           rw [← cn_no hlo] at S40
           refine U1 rfl (mvs 0 1 rfl rfl (wlr 1 rfl (Ug rfl rfl rfl (by first | omega | (simp only [ls]; omega))) ?_))
           refine mvs 2 1 rfl rfl (U5 rfl (U15 ?_))
           intro ax_ hax_
           refine ⟨_, ?hq17m, ⟨x6 + 1, _, _, rfl, hax_.sub ⟨rfl, rfl, rfl, rfl, rfl, rfl, rfl, rfl, rfl, rfl, trivial⟩, S40.pick [0, 1, 2, 3, 4, 5] [_, _, _, _, _, _] (by decide) ⟨rfl, rfl, rfl, rfl, rfl, rfl, trivial⟩, ?hq17f0, ?hq17f1, ?hq17f2⟩⟩
           case hq17f0 => omega
           case hq17f1 => first | assumption | simpa using hnl
           case hq17f2 => first | (intro x hx h9; by_cases e : x = x6 + 1; (subst e; rw [U1y _ _ _ _ (by omega), if_pos rfl, cn_yes h9]); (rw [U1y _ _ _ _ (by omega), if_neg (fun h => e h.symm)]; exact hnu x (by omega) h9)) | (intro x hx h9; by_cases e : x = x6 + 1; (subst e; rw [hrt] at h9; cases h9); exact hnu x (by omega) h9)
           case hq17m => omega
        ·refine U16 rfl rfl (nmk [1, 2, 4, 6, 12, 15] rfl (U4 (U2 Zrh Zri rfl rfl rfl (U2 Zrj Zrk rfl rfl rfl ?_))))
         obtain rfl : x6 = 2 * d.crs.length := by omega
         refine U1 rfl (mvs 0 1 rfl rfl (U5 rfl (U4 (Uc Zrl 14 rfl rfl rfl ?_))))
         have S43 := S40.nilrow cdCr; clear S40
         refine U11 (fun mx_ ax_ wx_ => ∃ (i5 : Nat) (c5 : List Cr) (vr5 : Value), mx_ = d.crs.length - i5 ∧ Env 185 [(1, .slice goneA gone.length gonec), (2, .pointer (some ⟨gb1, 0, none⟩)), (4, .pointer (some ⟨gb2, 0, none⟩)), (6, vrw2), (12, .pointer (some ⟨gb3, 0, none⟩)), (15, vrn), (18, .int .i64 (i5 : Int))] ax_ ∧ SH wx_ M X [Rs.row cdCr vr5 c5, Rs.row Uv vrn nu, Rs.box gb3 24 [vr5, .int .i64 (d.loops + (cn (loB2 cl oc) (2 * d.crs.length + 1) : Int))], Rs.row Uv vrw2 cl, Rs.box gb2 24 [.slice none 0 0, .int .i64 0], Rs.box gb1 24 [.slice dcrsA d.crs.length dcrsc, .int .i64 d.loops]] ∧ i5 ≤ d.crs.length ∧ c5 = (tRN d (inG gs) i5).map (nuC cl oc)) rfl ?_ ?_
         ·intro ax_ hax_
          refine ⟨_, ⟨0, _, _, rfl, hax_.sub ⟨rfl, rfl, rfl, rfl, rfl, rfl, rfl, trivial⟩, S43.pick [0, 1, 2, 4, 5, 6] [_, _, _, _, _, _] (by decide) ⟨rfl, rfl, rfl, rfl, rfl, rfl, trivial⟩, ?hq18f0, ?hq18f1⟩⟩
          case hq18f0 => omega
          case hq18f1 => rfl
         ·rintro m8 a8 w43 ⟨i5, c5, vr5, rfl, he8, S44, hi5, hc5⟩
          clear S43
          refine U1u he8 (c := Zrm) rfl ?_
          clear he8 a8
          have hcl5 : c5.length ≤ i5 := by rw [hc5, List.length_map]; exact tRN_len _ _ _
          have hcg5 := hcg i5
          refine U2 Zrn Zro rfl rfl rfl (U2 Zrp Zrq rfl rfl rfl (U1 rfl (mvs 0 1 rfl rfl (wlr 1 rfl (U0 rfl rfl uT24 rfl (ce22) (nf22)) (wlr 2 rfl (U3 rfl rfl uT22 rfl (S44.boxc (i := 5) rfl rfl)) (wlr 3 rfl (U1f rfl rfl rfl rfl rfl rfl uT22) (wlr 4 rfl (U17 rfl rfl rfl) (U5 rfl ?_))))))))
          refine nmk [1, 2, 4, 6, 12, 15, 18, 133] rfl (U4 ?_)
          refine Ue Zrr Zrs rfl rfl rfl rfl (fun hb133 => ?_) (fun hb133 => ?_)
          ·refine Uf rfl (nmk [1, 2, 4, 6, 12, 15, 18] rfl (U4 (U2 Zrt Zru rfl rfl rfl (Uc Zrv 15 rfl rfl rfl (U2 Zrw Zrx rfl rfl rfl (U2 Zry Zrz rfl rfl rfl (U1 rfl (mvs 0 2 rfl rfl ?_))))))))
           refine wlo 2 3 rfl rfl rfl (U20 rfl rfl rfl rfl rfl rfl rfl cf77 S44 (within_q gone (i5 : Int) (hgone.mono S44.Uw) S44.lend) ?_)
           rintro _ w44 S45 rfl; clear S44
           refine U5 rfl (nmk [1, 2, 4, 6, 12, 15, 18, 138] rfl (U4 ?_))
           refine U19 Zs0 Zs1 rfl rfl rfl rfl (fun hb138 => ?_) (fun hb138 => ?_)
           ·refine U16 rfl rfl (nmk [1, 2, 4, 6, 12, 15, 18] rfl (U4 (U1 rfl (mvs 0 1 rfl rfl (wlr 1 rfl (Ug rfl rfl rfl (by first | omega | (simp only [ls]; omega))) ?_)))))
            refine mvs 2 1 rfl rfl (U5 rfl (U15 ?_))
            intro ax_ hax_
            refine ⟨_, ?hq19m, ⟨i5 + 1, _, _, rfl, hax_.sub ⟨rfl, rfl, rfl, rfl, rfl, rfl, rfl, trivial⟩, S45.pick [0, 1, 2, 3, 4, 5] [_, _, _, _, _, _] (by decide) ⟨rfl, rfl, rfl, rfl, rfl, rfl, trivial⟩, ?hq19f0, ?hq19f1⟩⟩
            case hq19f0 => omega
            case hq19f1 => first | (rw [tRN, if_pos (by rw [← hcg5]; simpa using hb138)]; exact hc5) | (rw [tRN, if_neg (by rw [← hcg5]; simpa using hb138), List.map_append, ← hc5]; refine congrArg _ ?_; show [(⟨ga nu (ga cl (U24 (ga d.crs i5) 0).toNat).toNat, ga nu (ga cl (U24 (ga d.crs i5) 1).toNat).toNat, ga nu (ga cl (U24 (ga d.crs i5) 2).toNat).toNat, ga nu (ga cl (U24 (ga d.crs i5) 3).toNat).toNat, (ga d.crs i5).plus⟩ : Cr)] = _; rw [hnv 0 (by omega), hnv 1 (by omega), hnv 2 (by omega), hnv 3 (by omega)]; rfl)
            case hq19m => omega
           ·have hmem7 : ga d.crs i5 ∈ tR d (inG gs) := tR_in (by omega) (by rw [← hcg5]; simpa using hb138)
            have hside0 : 1 ≤ (ga d.crs i5).a ∧ (ga d.crs i5).a ≤ 2 * (d.crs.length : Int) := tR_arc hab (Nat.le_refl _) hmem7 (s := 0) (by omega)
            obtain ⟨hoo0, hpp0, _⟩ := hok (ga d.crs i5).a.toNat (by omega)
            have hside1 : 1 ≤ (ga d.crs i5).b ∧ (ga d.crs i5).b ≤ 2 * (d.crs.length : Int) := tR_arc hab (Nat.le_refl _) hmem7 (s := 1) (by omega)
            obtain ⟨hoo1, hpp1, _⟩ := hok (ga d.crs i5).b.toNat (by omega)
            have hside2 : 1 ≤ (ga d.crs i5).c ∧ (ga d.crs i5).c ≤ 2 * (d.crs.length : Int) := tR_arc hab (Nat.le_refl _) hmem7 (s := 2) (by omega)
            obtain ⟨hoo2, hpp2, _⟩ := hok (ga d.crs i5).c.toNat (by omega)
            have hside3 : 1 ≤ (ga d.crs i5).d ∧ (ga d.crs i5).d ≤ 2 * (d.crs.length : Int) := tR_arc hab (Nat.le_refl _) hmem7 (s := 3) (by omega)
            obtain ⟨hoo3, hpp3, _⟩ := hok (ga d.crs i5).d.toNat (by omega)
            have hnv : ∀ s, s < 4 → ga nu (ga cl (U24 (ga d.crs i5) s).toNat).toNat = nuA cl oc (U24 (ga d.crs i5) s) := fun s hs => by
             have := tR_nu hab (nu := nu) (by rw [← hclf, ← hocf]; exact hnu) hmem7 hs
             rw [← hclf, ← hocf] at this
             exact this
            refine Uf rfl (nmk [1, 2, 4, 6, 12, 15, 18] rfl (U4 (U2 Zs2 Zs3 rfl rfl rfl (U1 rfl (wlr 0 rfl (U0 rfl rfl uT24 rfl (ce22) (nf22)) (wlr 1 rfl (U3 rfl rfl uT22 rfl (S45.boxc (i := 5) rfl rfl)) (mvs 2 1 rfl rfl (wlr 3 rfl (Uj (C := cdCr) i5 rfl rfl rfl sl22 (by first | rfl | omega) hdcrs (by first | omega | (simp only [ls]; omega))) ?_))))))))
            refine wlr 4 rfl (U8 (us := [_, _, _, _, _]) rfl rfl uT77 rfl sz77 (hdcrs.U1x S45.um (e := i5) (by first | omega | (simp only [ls]; omega)) (j := 0) ⟨rfl, rfl, rfl, rfl, rfl, trivial⟩)) ?_
            refine wlo 5 6 rfl rfl rfl (Uh (l := [_, _, _, _, _]) rfl rfl rfl zr77 rfl S45 ?_)
            intro gb4 w45 S46; clear S45
            refine wlo 6 7 rfl rfl rfl (U7 (i := 0) (us := [_, _, _, _, _]) (l' := [_, _, _, _, _]) (H' := [_, _, _, _, _, _, _]) rfl rfl S46 rfl rfl rfl rfl sz77 rfl rfl rfl rfl ?_)
            intro w46 S47; clear S46
            refine U5 rfl (nmk [1, 2, 4, 6, 12, 15, 18, 19] rfl (U4 (Ux rfl (by kernel_rfl) S47 41 rfl ?_)))
            clear S47
            refine wap 0 40 rfl (by kernel_rfl) (fun _ => U0 rfl rfl uT24 rfl (ce22) (nf22)) ?_
            refine wat 1 39 rfl (by kernel_rfl) (fun _ _ _ hz Sz => .inl (U3 rfl rfl uT22 rfl (Sz.suf.boxc (i := 3) rfl rfl))) ?_
            refine wap 2 38 rfl (by kernel_rfl) (fun _ => run_move rfl rfl) ?_
            refine wap 3 37 rfl (by kernel_rfl) (fun _ => run_move rfl rfl) ?_
            refine wap 4 36 rfl (by kernel_rfl) (fun _ => U0 rfl rfl uT77 rfl (ce3) (nf3)) ?_
            refine wat 5 35 rfl (by kernel_rfl) (fun _ _ _ hz Sz => .inl (U3 rfl rfl uT3 rfl (Sz.suf.boxc (i := 0) rfl rfl))) ?_
            refine wat 6 34 rfl (by kernel_rfl) (fun _ _ _ hz Sz => .inl (Ui (C := Uv) (i := 4) (((ga d.crs i5).a).toNat) rfl rfl rfl sl53 Sz.suf rfl (by first | rfl | omega) (by first | omega | (simp only [ls]; omega)))) ?_
            refine wat 7 33 rfl (by kernel_rfl) (fun _ _ _ hz Sz => .inl (U3 rfl rfl uT3 rfl (Sz.suf.rowc (i := 4) (e := ((ga d.crs i5).a).toNat) (j := 0) rfl (by first | omega | (simp only [ls]; omega)) rfl rfl))) ?_
            refine wat 8 32 rfl (by kernel_rfl) (fun _ _ _ hz Sz => .inl (Ui (C := Uv) (i := 2) ((ga cl (((ga d.crs i5).a).toNat)).toNat) rfl rfl rfl sl53 Sz.suf rfl (by first | rfl | omega) (by first | omega | (simp only [ls]; omega)))) ?_
            refine wat 9 31 rfl (by kernel_rfl) (fun _ _ _ hz Sz => .inl (U3 rfl rfl uT3 rfl (Sz.suf.rowc (i := 2) (e := (ga cl (((ga d.crs i5).a).toNat)).toNat) (j := 0) rfl (by first | omega | (simp only [ls]; omega)) rfl rfl))) ?_
            refine wap 10 30 rfl (by kernel_rfl) (fun _ => run_move rfl rfl) ?_
            refine wap 11 29 rfl (by kernel_rfl) (fun _ => run_move rfl rfl) ?_
            refine wap 12 28 rfl (by kernel_rfl) (fun _ => U0 rfl rfl uT77 rfl (ce3) (nf3)) ?_
            refine wat 13 27 rfl (by kernel_rfl) (fun _ _ _ hz Sz => .inl (U3 rfl rfl uT3 rfl (Sz.suf.boxc (i := 0) rfl rfl))) ?_
            refine wat 14 26 rfl (by kernel_rfl) (fun _ _ _ hz Sz => .inl (Ui (C := Uv) (i := 4) (((ga d.crs i5).b).toNat) rfl rfl rfl sl53 Sz.suf rfl (by first | rfl | omega) (by first | omega | (simp only [ls]; omega)))) ?_
            refine wat 15 25 rfl (by kernel_rfl) (fun _ _ _ hz Sz => .inl (U3 rfl rfl uT3 rfl (Sz.suf.rowc (i := 4) (e := ((ga d.crs i5).b).toNat) (j := 0) rfl (by first | omega | (simp only [ls]; omega)) rfl rfl))) ?_
            refine wat 16 24 rfl (by kernel_rfl) (fun _ _ _ hz Sz => .inl (Ui (C := Uv) (i := 2) ((ga cl (((ga d.crs i5).b).toNat)).toNat) rfl rfl rfl sl53 Sz.suf rfl (by first | rfl | omega) (by first | omega | (simp only [ls]; omega)))) ?_
            refine wat 17 23 rfl (by kernel_rfl) (fun _ _ _ hz Sz => .inl (U3 rfl rfl uT3 rfl (Sz.suf.rowc (i := 2) (e := (ga cl (((ga d.crs i5).b).toNat)).toNat) (j := 0) rfl (by first | omega | (simp only [ls]; omega)) rfl rfl))) ?_
            refine wap 18 22 rfl (by kernel_rfl) (fun _ => run_move rfl rfl) ?_
            refine wap 19 21 rfl (by kernel_rfl) (fun _ => run_move rfl rfl) ?_
            refine wap 20 20 rfl (by kernel_rfl) (fun _ => U0 rfl rfl uT77 rfl (ce3) (nf3)) ?_
            refine wat 21 19 rfl (by kernel_rfl) (fun _ _ _ hz Sz => .inl (U3 rfl rfl uT3 rfl (Sz.suf.boxc (i := 0) rfl rfl))) ?_
            refine wat 22 18 rfl (by kernel_rfl) (fun _ _ _ hz Sz => .inl (Ui (C := Uv) (i := 4) (((ga d.crs i5).c).toNat) rfl rfl rfl sl53 Sz.suf rfl (by first | rfl | omega) (by first | omega | (simp only [ls]; omega)))) ?_
            refine wat 23 17 rfl (by kernel_rfl) (fun _ _ _ hz Sz => .inl (U3 rfl rfl uT3 rfl (Sz.suf.rowc (i := 4) (e := ((ga d.crs i5).c).toNat) (j := 0) rfl (by first | omega | (simp only [ls]; omega)) rfl rfl))) ?_
            refine wat 24 16 rfl (by kernel_rfl) (fun _ _ _ hz Sz => .inl (Ui (C := Uv) (i := 2) ((ga cl (((ga d.crs i5).c).toNat)).toNat) rfl rfl rfl sl53 Sz.suf rfl (by first | rfl | omega) (by first | omega | (simp only [ls]; omega)))) ?_
            refine wat 25 15 rfl (by kernel_rfl) (fun _ _ _ hz Sz => .inl (U3 rfl rfl uT3 rfl (Sz.suf.rowc (i := 2) (e := (ga cl (((ga d.crs i5).c).toNat)).toNat) (j := 0) rfl (by first | omega | (simp only [ls]; omega)) rfl rfl))) ?_
            refine wap 26 14 rfl (by kernel_rfl) (fun _ => run_move rfl rfl) ?_
            refine wap 27 13 rfl (by kernel_rfl) (fun _ => run_move rfl rfl) ?_
            refine wap 28 12 rfl (by kernel_rfl) (fun _ => U0 rfl rfl uT77 rfl (ce3) (nf3)) ?_
            refine wat 29 11 rfl (by kernel_rfl) (fun _ _ _ hz Sz => .inl (U3 rfl rfl uT3 rfl (Sz.suf.boxc (i := 0) rfl rfl))) ?_
            refine wat 30 10 rfl (by kernel_rfl) (fun _ _ _ hz Sz => .inl (Ui (C := Uv) (i := 4) (((ga d.crs i5).d).toNat) rfl rfl rfl sl53 Sz.suf rfl (by first | rfl | omega) (by first | omega | (simp only [ls]; omega)))) ?_
            refine wat 31 9 rfl (by kernel_rfl) (fun _ _ _ hz Sz => .inl (U3 rfl rfl uT3 rfl (Sz.suf.rowc (i := 4) (e := ((ga d.crs i5).d).toNat) (j := 0) rfl (by first | omega | (simp only [ls]; omega)) rfl rfl))) ?_
            refine wat 32 8 rfl (by kernel_rfl) (fun _ _ _ hz Sz => .inl (Ui (C := Uv) (i := 2) ((ga cl (((ga d.crs i5).d).toNat)).toNat) rfl rfl rfl sl53 Sz.suf rfl (by first | rfl | omega) (by first | omega | (simp only [ls]; omega)))) ?_
            refine wat 33 7 rfl (by kernel_rfl) (fun _ _ _ hz Sz => .inl (U3 rfl rfl uT3 rfl (Sz.suf.rowc (i := 2) (e := (ga cl (((ga d.crs i5).d).toNat)).toNat) (j := 0) rfl (by first | omega | (simp only [ls]; omega)) rfl rfl))) ?_
            refine wap 34 6 rfl (by kernel_rfl) (fun _ => U0 rfl rfl uT77 rfl (ce4) (nf4)) ?_
            refine wat 35 5 rfl (by kernel_rfl) (fun _ _ _ hz Sz => .inl (U3 rfl rfl uT4 rfl (Sz.suf.boxc (i := 0) rfl rfl))) ?_
            refine wat 36 4 rfl (by kernel_rfl) (fun _ _ _ hz Sz => .inl (run_build (l := [_, _, _, _, _]) rfl rfl st77 rfl rfl)) ?_
            refine Um (i := 37) 3 rfl (by kernel_rfl) rfl rfl (fun w85 S86 => ?_)
            refine (U13 (C := cdCr) (l := [_, _, _, _, _]) rfl rfl rfl rfl sl22 rfl rfl rfl rfl S86 ?_)
            intro gb5 w86 S87; clear S86
            refine U10.grow [_] (Hp.le_refl _) S87 ?_; clear S87
            change WA _ _ _ _ _ _ _ _ _ _ _ _ [_, _, _, _, _, _, _, _]
            refine Um (i := 38) 2 rfl (by kernel_rfl) rfl rfl (fun w88 S89 => ?_)
            refine (U1l (C := cdCr) (i := 2) (q := 0) (⟨ga nu ((ga cl (((ga d.crs i5).a).toNat)).toNat), ga nu ((ga cl (((ga d.crs i5).b).toNat)).toNat), ga nu ((ga cl (((ga d.crs i5).c).toNat)).toNat), ga nu ((ga cl (((ga d.crs i5).d).toNat)).toNat), (ga d.crs i5).plus⟩ : Cr) rfl rfl rfl rfl rfl rfl rfl rfl sl22 S89 rfl rfl rfl (by show (_ + 1) * 40 ≤ _; first | omega | (simp only [ls]; omega)) ?_)
            intro vr5 w89 S90; clear S89
            have S91 := S90.pick [1, 2, 3, 4, 5, 6, 7] [_, _, _, _, _, _, _] (by decide) ⟨rfl, rfl, rfl, rfl, rfl, rfl, rfl, trivial⟩; clear S90
            refine U10.turn (by kernel_rfl) S91 ?_; clear S91
            change WA _ _ _ _ _ _ _ _ _ _ _ _ [_, _, _, _, _, _, _]
            refine wap 39 1 rfl (by kernel_rfl) (fun _ => U0 rfl rfl uT24 rfl (ce22) (nf22)) ?_
            refine Um (i := 40) 0 rfl (by kernel_rfl) rfl rfl (fun w92 S94 => ?_)
            refine (U7 (i := 3) (us := [_]) (l' := [_, _]) (H' := [_, _, _, _, _, _, _]) rfl rfl S94 rfl rfl rfl (S94.cells1 (i := 1) rfl) sz22 rfl (Uy (S94.one (i := 1) rfl) rfl) rfl rfl ?_)
            intro w93 S95; clear S94
            refine U10.turn (by kernel_rfl) S95 ?_; clear S95
            change WA _ _ _ _ _ _ _ _ _ _ _ _ [_, _, _, _, _, _, _]
            refine Uu (by kernel_rfl) (fun w94 S96 => ?_)
            refine U12 (nmk [1, 2, 4, 6, 12, 15, 18] rfl (U4 (U1 rfl (mvs 0 1 rfl rfl (wlr 1 rfl (Ug rfl rfl rfl (by first | omega | (simp only [ls]; omega))) ?_)))))
            refine mvs 2 1 rfl rfl (U5 rfl (U15 ?_))
            intro ax_ hax_
            refine ⟨_, ?hq20m, ⟨i5 + 1, _, _, rfl, hax_.sub ⟨rfl, rfl, rfl, rfl, rfl, rfl, rfl, trivial⟩, S96.pick [1, 2, 3, 4, 5, 6] [_, _, _, _, _, _] (by decide) ⟨rfl, rfl, rfl, rfl, rfl, rfl, trivial⟩, ?hq20f0, ?hq20f1⟩⟩
            case hq20f0 => omega
            case hq20f1 => first | (rw [tRN, if_pos (by rw [← hcg5]; simpa using hb138)]; exact hc5) | (rw [tRN, if_neg (by rw [← hcg5]; simpa using hb138), List.map_append, ← hc5]; refine congrArg _ ?_; show [(⟨ga nu (ga cl (U24 (ga d.crs i5) 0).toNat).toNat, ga nu (ga cl (U24 (ga d.crs i5) 1).toNat).toNat, ga nu (ga cl (U24 (ga d.crs i5) 2).toNat).toNat, ga nu (ga cl (U24 (ga d.crs i5) 3).toNat).toNat, (ga d.crs i5).plus⟩ : Cr)] = _; rw [hnv 0 (by omega), hnv 1 (by omega), hnv 2 (by omega), hnv 3 (by omega)]; rfl)
            case hq20m => omega
          ·refine U16 rfl rfl (nmk [4, 12] rfl (U4 (U2 Zs4 Zs5 rfl rfl rfl (U1 rfl (wlr 0 rfl (U8 (us := [_, _]) rfl rfl uT24 rfl sz24 (S44.boxcs (i := 2) rfl ⟨rfl, rfl, trivial⟩)) (wlo 1 2 rfl rfl rfl (U7 (i := 4) (us := [_, _]) (l' := [_, _]) (H' := [_, _, _, _, _, _]) rfl rfl S44 rfl rfl rfl rfl sz24 rfl (Uy (S44.one (i := 0) rfl) (Uy rfl rfl)) rfl rfl ?_)))))))
           intro w95 S97; clear S44
           refine U5 rfl (nmk [4] rfl (U4 ?_))
           obtain ⟨M61, hle69, S98, ⟨A1, c1, e1, hr1⟩⟩ := S97.pubrow (i := 0) (H' := [_, _, _, _, _, _]) rfl rfl (by show _ * 40 ≤ _; first | omega | (simp only [ls]; omega))
           clear S97; subst e1
           replace hdcrs := hdcrs.mono (Hp.Ua hle69 S98.mx)
           replace hgone := hgone.mono (Hp.Ua hle69 S98.mx)
           refine Uk hC [_] rfl rfl ⟨⟨_, rfl, Up (us := [_, _]) uT24 rfl sz24 (S98.boxcs (i := 4) rfl ⟨rfl, rfl, trivial⟩)⟩, trivial⟩ ?_
           refine ⟨_, rfl, _, hle69, (S98.pick [] [] (by decide) trivial), ?_⟩
           obtain rfl : i5 = d.crs.length := by omega
           have e9 : (tkD d (inG gs)).crs = c5 := by rw [hc5, hclf, hocf]; rfl
           have e8 : (tkD d (inG gs)).loops = d.loops + (cn (loB2 cl oc) (2 * d.crs.length + 1) : Int) := by rw [hclf, hocf]; rfl
           rw [e9, e8]
           exact ⟨_, _, rfl, hr1⟩
end Go.Proofs.YthppkofceancjaaGreat
namespace Go.Proofs.YthppkofceancjaaGreat
open Go.ChangeShapes Go.WideShapes Go.ChangeAt Go.RowKit
section
variable {P : Program} {n : Nat} {C : Ctx} {c : Code} {s : List K} {L : List (Nat × Value)} {w : World} {M Mb : Hp} {X : Fr} {H Hb N : List Rs} {o : Oper} {l : Array Bool} {f : Nat} {ch : List PanicEntry}
theorem U42 : ∀ {s : List K} {a : Act} {w : World}, a.defers = [] → C.R (.panicked ch) w → post P C s (.panic ch) a w
  | [], _, _, h, hR => ⟨h, hR⟩
  | .thn c :: s, _, _, h, hR => U42 (s := s) h hR
  | .lp I :: s, _, _, h, hR => U42 (s := s) h hR
  | .blk i :: s, _, _, h, hR => U42 (s := s) h hR
theorem U27 {k k' d : Nat} (E : Bool) (L2 : List (Nat × Value)) (hs : Sub L L2) (h : WL P n C c k' s ((d, .bool E) :: L2) w → WL P n C c k s L w) (hJ : WL P n C c k' s ((d, .bool E) :: L2) w) : WL P n C c k s L w := h hJ
theorem wp_pcall {fid : FuncId} {vs : List Value} {ca : Call} {fo : Operand} {xs : List Operand} {a : Act} (ha : Env n L a) (hop : o.op = .call ca) (hca : ca.callee = .value fo) (hfo : oev L fo = some (.func (.func fid) #[] #[]))
    (hxs : ca.args = xs.toArray) (hvs : oevs L xs = some vs) (hen : ∀ args w, (callFunc fid args).run P w = .ok (.enter fid args) w) (S : SH w M X H)
    (hcall : Calls P fid vs.toArray w fun e w' => e = .panicked ch ∧ ∃ M', M.le M' ∧ SH w' M' (XH w X H) []) (h : ∀ w' M', M.le M' → SH w' M' X H → C.R (.panicked ch) w') (next : Act → World → Prop) : o.wp P a w next (post P C s) := by
  have hr : (execOp a.eval o).run P w = .ok (.enter fid vs.toArray) w := by
    unfold execOp
    simp only [hop, resolve, hca, ha.eval hfo, hxs, List.map_toArray, ha.evals hvs, Deferred.ofValue, Sem.run_bind, Sem.run_pure, Result.andThen_ok, invoke, Array.empty_append, Array.append_empty]
    exact hen _ _
  unfold Oper.wp
  rw [hr, Oper.upon_enter]
  refine hcall.mono ?_
  rintro e w' ⟨rfl, M', h1, h2⟩
  exact U42 ha.df (h w' M' h1 (S.back h2))
theorem U2e {k : Nat} {fid : FuncId} {vs : List Value} {ca : Call} {fo : Operand} {xs : List Operand} (ho : op c k = some o) (hg : o.guard = none) (hop : o.op = .call ca) (hca : ca.callee = .value fo) (hfo : oev L fo = some (.func (.func fid) #[] #[]))
    (hxs : ca.args = xs.toArray) (hvs : oevs L xs = some vs) (hen : ∀ args w, (callFunc fid args).run P w = .ok (.enter fid args) w) (S : SH w M X H)
    (hcall : Calls P fid vs.toArray w fun e w' => e = .panicked ch ∧ ∃ M', M.le M' ∧ SH w' M' (XH w X H) []) (h : ∀ w' M', M.le M' → SH w' M' X H → C.R (.panicked ch) w') : WL P n C c k s L w := by
  intro a ha
  rw [U43 ho]
  exact wpList_plain hg fun K _ => wp_pcall ha hop hca hfo hxs hvs hen S hcall h K
theorem U37 {i : Nat} {fid : FuncId} {vs : List Value} {ca : Call} {fo : Operand} {xs : List Operand} (f : Nat) (ho : op c i = some o) (hr : Region.ready .any (rg c) l = [i]) (hg : Wanted c L o.guard true) (hs : gslot c o n = true) (hop : o.op = .call ca) (hca : ca.callee = .value fo) (hfo : oev L fo = some (.func (.func fid) #[] #[]))
    (hxs : ca.args = xs.toArray) (hvs : oevs L xs = some vs) (hen : ∀ args w, (callFunc fid args).run P w = .ok (.enter fid args) w)
    (h : ∀ w, SH w M X H → Calls P fid vs.toArray w fun e w' => e = .panicked ch ∧ ∃ M', M.le M' ∧ SH w' M' (XH w X H) []) (h2 : ∀ w' M', M.le M' → SH w' M' X H → C.R (.panicked ch) w') : WA P n C c s X (f + 1) l L Mb Hb M H := by
  intro _ a ha w S hd
  refine ⟨fun h0 => (by rw [hr] at h0; cases h0), fun k hk => ?_⟩
  rw [hr, List.mem_singleton] at hk
  subst hk
  unfold Go.wpOp
  simp only [op_get ho]
  rw [if_pos (U3m ha hg (U35 hs))]
  exact .inl (wp_pcall ha hop hca hfo hxs hvs hen S (h w S) h2 _)
theorem wl_panic {k : Nat} {x : Operand} {T : TypeId} {v : Value} (ho : op c k = some o) (hg : o.guard = none) (hop : o.op = .panic x) (hx : oev L x = some (.iface T v)) (h : C.R (.panicked [{ v := .iface T v, recovered := false }]) w) : WL P n C c k s L w := by
  intro a ha
  rw [U43 ho]
  refine wpList_plain hg fun K _ => ?_
  have hr : (execOp a.eval o).run P w = .halt (.panic (.iface T v)) w := by
    unfold execOp
    simp only [hop, ha.eval hx]
    rfl
  unfold Oper.wp
  rw [hr, Oper.upon_panic]
  exact U42 ha.df h
theorem run_mkIface {T : TypeId} {x : Operand} {v : Value} {fs : Array Field} (hop : o.op = .makeInterface T x) (hx : oev L x = some v) (hT : P.underlying T = some (.struct fs)) : Run P o L w (.iface T v) w := by
  intro n a ha
  unfold execOp
  simp only [hop, ha.eval hx, Instr.makeInterface, Sem.run_bind, run_underlying hT, Result.andThen_ok, Sem.run_pure]
theorem run_sliceArr {T E : TypeId} {x : Operand} {m k g : Nat} (hop : o.op = .slice T x none none none) (hx : oev L x = some (.pointer (some ⟨g, 0, none⟩))) (hu : P.underlying T = some (.array m E)) (hk : (P.info? E).map (·.size) = some k) (hm : 0 < m) : Run P o L w (.slice (some ⟨g, 0, none⟩) m m) w := by
  intro n a ha
  unfold execOp
  have h0 : ¬ m = 0 := by omega
  simp only [hop, ha.eval hx, Option.map_none, Instr.sliceAt, Instr.sureAddr, Instr.sliceBounds, Sem.run_bind, run_underlying hu, Result.andThen_ok, Sem.run_pure, run_sizeOf hk, h0, if_false, Nat.zero_mul, Nat.sub_zero, Addr.add, if_true]
theorem SH.bxOf {i g : Nat} {E : TypeId} {l l' : List Value} (S : SH w M X (N ++ H)) (hi : nth H i = some (Rs.box g E l)) (e : l = l') : BxM (M.un (XH w X (N ++ H)).h) g E l' := by
  subst e
  exact S.boxMs hi
theorem SH.rdOf {α : Type} {Cc : Cd α} {i c : Nat} {v : Value} {A : Option Addr} {xs : List α} (S : SH w M X (N ++ H)) (hi : nth H i = some (Rs.row Cc v xs)) (e : v = .slice A xs.length c) (hr : xs.length * Cc.u8 ≤ 140737488355328) : RdA Cc (M.un (XH w X (N ++ H)).h) A c xs := by
  obtain ⟨A', c', e', h⟩ := S.lendRd (i := N.length + i) (by rw [nth_app]; exact hi) hr
  rw [e] at e'
  injection e' with e1 _ e2
  subst e1
  subst e2
  exact h
end
end Go.Proofs.YthppkofceancjaaGreat
namespace Go.Proofs.YthppkofceancjaaGreat
open Go.ChangeShapes Go.WideShapes Go.ChangeAt Go.RowKit
structure Mv where
 kd : Int
 at_ : Int
 by_ : Int
 ua : Int
 ub : Bool
 va : Int
 vb : Bool
 ov : Bool
def pEnt (e : Int) : List PanicEntry := [{ v := .iface 62 (.agg [Value.int .i64 e].toArray), recovered := false }]
def Cm (f : FuncId) (vs : List Value) (w : World) (M : Hp) (X : Fr) (err : Int) (R : Value → Hp → Rs → Prop) : Prop :=
 Calls Tryz.prog f vs.toArray w fun e w' => (err = 0 ∧ ∃ v, e = .returned v ∧ ∃ M' r', M.le M' ∧ SH w' M' X [r'] ∧ R v M' r') ∨ (err ≠ 0 ∧ e = .panicked (pEnt err) ∧ ∃ M', M.le M' ∧ SH w' M' X [])
section
variable {f : FuncId} {vs : List Value} {w : World} {M : Hp} {X : Fr} {err : Int} {R : Value → Hp → Rs → Prop}
theorem Cm.ok (h : Cm f vs w M X err R) (he : err = 0) : C1 Tryz.prog f vs w M X R := by
 refine Calls.mono h ?_
 rintro e w' (⟨_, h⟩ | ⟨h, _⟩)
 ·exact h
 ·exact absurd he h
theorem Cm.no (h : Cm f vs w M X err R) (he : ¬ err = 0) : Calls Tryz.prog f vs.toArray w fun e w' => e = .panicked (pEnt err) ∧ ∃ M', M.le M' ∧ SH w' M' X [] := by
 refine Calls.mono h ?_
 rintro e w' (⟨h, _⟩ | ⟨_, h⟩)
 ·exact absurd h he
 ·exact h
end
def putS (x : Cr) (k : Nat) (a : Int) : Cr := if k = 0 then ⟨a, x.b, x.c, x.d, x.plus⟩ else if k = 1 then ⟨x.a, a, x.c, x.d, x.plus⟩ else if k = 2 then ⟨x.a, x.b, a, x.d, x.plus⟩ else ⟨x.a, x.b, x.c, a, x.plus⟩
def U1c (xs : List Cr) (c k : Nat) (a : Int) : List Cr := xs.set c (putS (ga xs c) k a)
theorem U1o (xs : List Cr) (c k : Nat) (a : Int) : (U1c xs c k a).length = xs.length := List.length_set
theorem bb_eq {p q p' q' : Bool} (h : p = p') (h' : q = q') : Value.tuple [.bool p, .bool q].toArray = .tuple [.bool p', .bool q'].toArray := by rw [h, h']
def hgt (d : Dg) (a : Int) : Nat := (Ud d a false).2 % 2 + (Ud d a true).2 % 2
noncomputable def Zs6:=Tryz.f109.body.getD .skip
def Zs7 := cL Zs6
def Zs8 := cR Zs6
def Zs9 := cR Zs8
set_option maxRecDepth 10000 in
theorem U31 {w : World} {M : Hp} {X : Fr} (e : Int) (S : SH w M X []) : Cq Tryz.prog 109 [.bool true, .int .i64 e] w M X (fun u => u = .tuple [].toArray) := by
 unfold Cq
 refine Uo (b := Zs6) Tryz.func109 rfl Tryz.ntmps109 rfl (fun C hC => (U14 [(0, _), (1, _)] ⟨rfl, rfl, trivial⟩ (U2 Zs7 Zs8 rfl rfl rfl (U1 rfl (mvs 0 1 rfl rfl (wlr 1 rfl (U1j rfl rfl) (U5 rfl (nmk [1, 5] rfl (U4 ?_)))))))))
 refine U2c Zs9 rfl rfl rfl (Uf rfl (U2j hC [] rfl trivial ?_))
 exact ⟨_, rfl, (S.pick [] [] (by decide) trivial), rfl⟩
noncomputable def Zsa:=Tryz.f109.body.getD .skip
def Zsb := cL Zsa
def Zsc := cR Zsa
def Zsd := cL Zsc
set_option maxRecDepth 10000 in
theorem U25 {w : World} {M : Hp} {X : Fr} (e : Int) (S : SH w M X []) : Calls Tryz.prog 109 [.bool false, .int .i64 e].toArray w (fun e9 w9 => e9 = .panicked (pEnt e) ∧ ∃ M', M.le M' ∧ SH w9 M' X []) := by
 refine Uo (b := Zsa) Tryz.func109 rfl Tryz.ntmps109 rfl (fun C hC => (U14 [(0, _), (1, _)] ⟨rfl, rfl, trivial⟩ (U2 Zsb Zsc rfl rfl rfl (U1 rfl (mvs 0 1 rfl rfl (wlr 1 rfl (U1j rfl rfl) (U5 rfl (nmk [1, 5] rfl (U4 ?_)))))))))
 refine U1h Zsd rfl rfl rfl (U1 rfl (mvs 0 1 rfl rfl (wlr 1 rfl (run_build (l := [_]) rfl rfl st62 rfl rfl) (wlr 2 rfl (run_mkIface rfl rfl uT62) (wl_panic (k := 3) rfl rfl rfl rfl ?_)))))
 subst hC
 exact ⟨rfl, M, Hp.le_refl _, S.pick [] [] (by decide) trivial⟩
noncomputable def Zse:=Tryz.f110.body.getD .skip
def Zsf := cL Zse
def Zsg := cR Zse
def Zsh := cL Zsg
def Zsi := cR Zsg
set_option maxRecDepth 10000 in
theorem IsArcM_q {w : World} {M : Hp} {X : Fr} (d : Dg) {gsh : Nat} {cA iA oA : Option Addr} {cc ic oc : Nat} (a : Int) (hsb : BxM (M.un X.h) gsh 70 [.slice cA d.crs.length cc, .int .i64 d.loops, .slice iA (tabL d false (4 * d.crs.length)).length ic, .slice oA (tabL d true (4 * d.crs.length)).length oc]) (hsc : RdA cdCr (M.un X.h) cA cc d.crs) (hsi : RdA cdPl (M.un X.h) iA ic (tabL d false (4 * d.crs.length))) (hso : RdA cdPl (M.un X.h) oA oc (tabL d true (4 * d.crs.length))) (hn : d.crs.length ≤ 16) (S : SH w M X []) : Cq Tryz.prog 110 [.pointer (some ⟨gsh, 0, none⟩), .int .i64 a] w M X (fun u => u = .bool (decide (1 ≤ a ∧ a ≤ 2 * (d.crs.length : Int)))) := by
 unfold Cq
 refine Uo (b := Zse) Tryz.func110 rfl Tryz.ntmps110 rfl (fun C hC => (U14 [(0, _), (1, _)] ⟨rfl, rfl, trivial⟩ (U2 Zsf Zsg rfl rfl rfl (U1 rfl (mvs 0 1 rfl rfl (U5 rfl (nmk [0, 1] rfl (U4 (U2 Zsh Zsi rfl rfl rfl ?_)))))))))
 refine U1 rfl (mvs 0 1 rfl rfl (wlr 1 rfl (U2q rfl rfl rfl) (mvs 2 1 rfl rfl ?_)))
 refine Ut (t := 7) rfl (fun hg7 => ?_) (fun hg7 => ?_)
 ·refine mvs 3 2 rfl rfl (wlg 5 6 rfl rfl rfl rfl rfl rfl rfl rfl (U20 rfl rfl rfl rfl rfl rfl rfl cf111 S (Arcs_q d  (hsb.mono S.Uw) (hsc.mono S.Uw) (hsi.mono S.Uw) (hso.mono S.Uw) (by omega) S.lend) ?_))
  rintro _ w1 S1 rfl; clear S
  refine wlg 6 7 rfl rfl rfl rfl rfl rfl rfl rfl (Ub rfl rfl (U41 rfl rfl rfl) (mvs 7 2 rfl rfl (U5 rfl (nmk [4] rfl (U4 (Uk hC [_] rfl rfl ⟨rfl, trivial⟩ ?_))))))
  exact ⟨_, rfl, (S1.pick [] [] (by decide) trivial), (by show Value.bool _ = _; refine congrArg Value.bool ?_; first | (refine decide_eq_decide.2 ?_; omega) | (symm; rw [decide_eq_false_iff_not]; omega))⟩
 ·refine mvs 3 6 rfl rfl (U5 rfl (nmk [4] rfl (U4 (Uk hC [_] rfl rfl ⟨rfl, trivial⟩ ?_))))
  exact ⟨_, rfl, (S.pick [] [] (by decide) trivial), (by show Value.bool _ = _; refine congrArg Value.bool ?_; first | (refine decide_eq_decide.2 ?_; omega) | (symm; rw [decide_eq_false_iff_not]; omega))⟩
noncomputable def Zsj:=Tryz.f114.body.getD .skip
def Zsk := cL Zsj
def Zsl := cR Zsj
def Zsm := cL Zsl
def Zsn := cR Zsl
set_option maxRecDepth 10000 in
theorem isCross_q {w : World} {M : Hp} {X : Fr} (d : Dg) {gsh : Nat} {cA iA oA : Option Addr} {cc ic oc : Nat} {ggb : Nat} {fV : Value} (a : Int) (hbb : BxM (M.un X.h) ggb 67 [.pointer (some ⟨gsh, 0, none⟩), fV]) (hsb : BxM (M.un X.h) gsh 70 [.slice cA d.crs.length cc, .int .i64 d.loops, .slice iA (tabL d false (4 * d.crs.length)).length ic, .slice oA (tabL d true (4 * d.crs.length)).length oc]) (hsc : RdA cdCr (M.un X.h) cA cc d.crs) (hsi : RdA cdPl (M.un X.h) iA ic (tabL d false (4 * d.crs.length))) (hso : RdA cdPl (M.un X.h) oA oc (tabL d true (4 * d.crs.length))) (hn : d.crs.length ≤ 16) (S : SH w M X []) : Cq Tryz.prog 114 [.pointer (some ⟨ggb, 0, none⟩), .int .i64 a] w M X (fun u => u = .bool (decide (0 ≤ a ∧ a < (d.crs.length : Int)))) := by
 unfold Cq
 refine Uo (b := Zsj) Tryz.func114 rfl Tryz.ntmps114 rfl (fun C hC => (U14 [(0, _), (1, _)] ⟨rfl, rfl, trivial⟩ (U2 Zsk Zsl rfl rfl rfl (U1 rfl (mvs 0 1 rfl rfl (U5 rfl (nmk [0, 1] rfl (U4 (U2 Zsm Zsn rfl rfl rfl ?_)))))))))
 refine U1 rfl (mvs 0 1 rfl rfl (wlr 1 rfl (U2q rfl rfl rfl) (mvs 2 1 rfl rfl ?_)))
 refine Ut (t := 7) rfl (fun hg7 => ?_) (fun hg7 => ?_)
 ·refine mvs 3 2 rfl rfl (wlg 5 6 rfl rfl rfl rfl rfl rfl rfl rfl (Ub rfl rfl (U9 rfl rfl) (wlg 6 7 rfl rfl rfl rfl rfl rfl rfl rfl (Ub rfl rfl (U0 rfl rfl uT67 rfl (ce64) (nf64)) (wlg 7 8 rfl rfl rfl rfl rfl rfl rfl rfl (Ub rfl rfl (U3 rfl rfl uT64 rfl (hbb.cell S.um rfl)) (wlg 8 9 rfl rfl rfl rfl rfl rfl rfl rfl (Ub rfl rfl (U9 rfl rfl) (wlg 9 10 rfl rfl rfl rfl rfl rfl rfl rfl (Ub rfl rfl (U0 rfl rfl uT70 rfl (ce24) (nf24)) (wlg 10 11 rfl rfl rfl rfl rfl rfl rfl rfl (Ub rfl rfl (U0 rfl rfl uT24 rfl (ce22) (nf22)) (wlg 11 12 rfl rfl rfl rfl rfl rfl rfl rfl (Ub rfl rfl (U3 rfl rfl uT22 rfl (hsb.cell S.um rfl)) (wlg 12 13 rfl rfl rfl rfl rfl rfl rfl rfl (Ub rfl rfl (U1f rfl rfl rfl rfl rfl rfl uT22) ?_))))))))))))))))
  refine wlg 13 14 rfl rfl rfl rfl rfl rfl rfl rfl (Ub rfl rfl (U17 rfl rfl rfl) (mvs 14 2 rfl rfl (U5 rfl (nmk [4] rfl (U4 (Uk hC [_] rfl rfl ⟨rfl, trivial⟩ ?_))))))
  exact ⟨_, rfl, (S.pick [] [] (by decide) trivial), (by show Value.bool _ = _; refine congrArg Value.bool ?_; first | (refine decide_eq_decide.2 ?_; omega) | (symm; rw [decide_eq_false_iff_not]; omega))⟩
 ·refine mvs 3 6 rfl rfl (mvs 9 6 rfl rfl (mvs 15 1 rfl rfl (U5 rfl (nmk [4] rfl (U4 (Uk hC [_] rfl rfl ⟨rfl, trivial⟩ ?_))))))
  exact ⟨_, rfl, (S.pick [] [] (by decide) trivial), (by show Value.bool _ = _; refine congrArg Value.bool ?_; first | (refine decide_eq_decide.2 ?_; omega) | (symm; rw [decide_eq_false_iff_not]; omega))⟩
noncomputable def Zso:=Tryz.f125.body.getD .skip
def Zsp := cL Zso
def Zsq := cR Zso
def Zsr := cL Zsq
def Zss := cR Zsq
set_option maxRecDepth 10000 in
theorem Tail_q {w : World} {M : Hp} {X : Fr} (d : Dg) {gsh : Nat} {cA iA oA : Option Addr} {cc ic oc : Nat} (x : Da) (hsb : BxM (M.un X.h) gsh 70 [.slice cA d.crs.length cc, .int .i64 d.loops, .slice iA (tabL d false (4 * d.crs.length)).length ic, .slice oA (tabL d true (4 * d.crs.length)).length oc]) (hsc : RdA cdCr (M.un X.h) cA cc d.crs) (hsi : RdA cdPl (M.un X.h) iA ic (tabL d false (4 * d.crs.length))) (hso : RdA cdPl (M.un X.h) oA oc (tabL d true (4 * d.crs.length))) (hn : d.crs.length ≤ 16) (hab : U1b d = true) (hx : okD d x) (S : SH w M X []) : Cq Tryz.prog 125 [.pointer (some ⟨gsh, 0, none⟩), .agg [.int .i64 x.a, .bool x.b].toArray] w M X (fun u => u = .agg [.int .i64 ((Ud d x.a (!x.b)).1 : Int), .int .i64 ((Ud d x.a (!x.b)).2 : Int)].toArray) := by
 unfold Cq
 refine Uo (b := Zso) Tryz.func125 rfl Tryz.ntmps125 rfl (fun C hC => (U14 [(0, _), (1, _)] ⟨rfl, rfl, trivial⟩ (U2 Zsp Zsq rfl rfl rfl (U1 rfl (wlo 0 1 rfl rfl rfl (U18 (l := [_, _]) rfl rfl rfl rfl rfl S ?_))))))
 intro gb1 w1 S1; clear S
 refine wlo 1 2 rfl rfl rfl (Uh (l := [_, _]) rfl rfl rfl zr190 rfl S1 ?_)
 intro gb2 w2 S2; clear S1
 refine U5 rfl (nmk [0, 3, 4] rfl (U4 (U2 Zsr Zss rfl rfl rfl (U1 rfl (mvs 0 1 rfl rfl (wlr 1 rfl (U0 rfl rfl uT26 rfl (ce3) (nf3)) (wlr 2 rfl (U3 rfl rfl uT3 rfl (S2.boxc (i := 1) rfl rfl)) (wlr 3 rfl (U0 rfl rfl uT26 rfl (ce4) (nf4)) ?_))))))))
 refine wlr 4 rfl (U3 rfl rfl uT4 rfl (S2.boxc (i := 1) rfl rfl)) (wlr 5 rfl (U1j rfl rfl) (wlr 6 rfl (run_build (l := [_, _]) rfl rfl st26 rfl rfl) ?_))
 have hx2 : okD d (⟨x.a, !x.b⟩ : Da) := hx
 refine wlo 7 8 rfl rfl rfl (U20 rfl rfl rfl rfl rfl rfl rfl cf106 S2 (Head_q d (⟨x.a, !x.b⟩ : Da) (hsb.mono S2.Uw) (hsc.mono S2.Uw) (hsi.mono S2.Uw) (hso.mono S2.Uw) (by first | assumption | omega) hab (by first | assumption | omega) S2.lend) ?_)
 rintro _ w3 S3 rfl; clear S2
 refine wlo 8 9 rfl rfl rfl (U7 (i := 0) (us := [_, _]) (l' := [_, _]) (H' := [_, _]) rfl rfl S3 rfl rfl rfl rfl sz190 rfl rfl rfl rfl ?_)
 intro w4 S4; clear S3
 refine U5 rfl (nmk [4] rfl (U4 (Uk hC [_] rfl rfl ⟨⟨_, rfl, Up (us := [_, _]) uT190 rfl sz190 (S4.boxcs (i := 0) rfl ⟨rfl, rfl, trivial⟩)⟩, trivial⟩ ?_)))
 exact ⟨_, rfl, (S4.pick [] [] (by decide) trivial), rfl⟩
noncomputable def Zst:=Tryz.f126.body.getD .skip
def Zsu := cL Zst
def Zsv := cR Zst
def Zsw := cL Zsv
def Zsx := cR Zsv
def Zsy := cL Zsx
def Zsz := cR Zsx
set_option maxRecDepth 10000 in
theorem over_q {w : World} {M : Hp} {X : Fr} (d : Dg) {gsh : Nat} {cA iA oA : Option Addr} {cc ic oc : Nat} {ggb : Nat} {fV : Value} (a : Int) (hbb : BxM (M.un X.h) ggb 67 [.pointer (some ⟨gsh, 0, none⟩), fV]) (hsb : BxM (M.un X.h) gsh 70 [.slice cA d.crs.length cc, .int .i64 d.loops, .slice iA (tabL d false (4 * d.crs.length)).length ic, .slice oA (tabL d true (4 * d.crs.length)).length oc]) (hsc : RdA cdCr (M.un X.h) cA cc d.crs) (hsi : RdA cdPl (M.un X.h) iA ic (tabL d false (4 * d.crs.length))) (hso : RdA cdPl (M.un X.h) oA oc (tabL d true (4 * d.crs.length))) (hn : d.crs.length ≤ 16) (hab : U1b d = true) (ha : 1 ≤ a ∧ a ≤ 2 * (d.crs.length : Int)) (S : SH w M X []) : Cq Tryz.prog 126 [.pointer (some ⟨ggb, 0, none⟩), .int .i64 a] w M X (fun u => u = .tuple [.bool (decide (hgt d a = 2)), .bool (decide (hgt d a = 0))].toArray) := by
 unfold Cq
 have hti := U1m d false (4 * d.crs.length)
 have hto := U1m d true (4 * d.crs.length)
 obtain ⟨_, _, hge1, _⟩ := endD hab ha false
 obtain ⟨_, _, hge2, _⟩ := endD hab ha true
 refine Uo (b := Zst) Tryz.func126 rfl Tryz.ntmps126 rfl (fun C hC => (U14 [(0, _), (1, _)] ⟨rfl, rfl, trivial⟩ (U2 Zsu Zsv rfl rfl rfl (U1 rfl (mvs 0 2 rfl rfl (U5 rfl (nmk [0, 1] rfl (U4 (U2 Zsw Zsx rfl rfl rfl ?_)))))))))
 refine Ux rfl (by kernel_rfl) S 28 rfl ?_
 clear S
 refine wap 0 27 rfl (by kernel_rfl) (fun _ => run_move rfl rfl) ?_
 refine wap 1 26 rfl (by kernel_rfl) (fun _ => U9 rfl rfl) ?_
 refine wap 2 25 rfl (by kernel_rfl) (fun _ => U0 rfl rfl uT67 rfl (ce64) (nf64)) ?_
 refine wat 3 24 rfl (by kernel_rfl) (fun _ _ _ hz Sz => .inl (U3 rfl rfl uT64 rfl ((hbb.mono (Hp.Ua hz Sz.mx)).cell Sz.um rfl))) ?_
 refine wap 4 23 rfl (by kernel_rfl) (fun _ => U9 rfl rfl) ?_
 refine wap 5 22 rfl (by kernel_rfl) (fun _ => U0 rfl rfl uT70 rfl (ce68) (nf68)) ?_
 refine wat 6 21 rfl (by kernel_rfl) (fun _ _ _ hz Sz => .inl (U3 rfl rfl uT68 rfl ((hsb.mono (Hp.Ua hz Sz.mx)).cell Sz.um rfl))) ?_
 refine wap 7 20 rfl (by kernel_rfl) (fun _ => run_move rfl rfl) ?_
 refine wat 8 19 rfl (by kernel_rfl) (fun _ _ _ hz Sz => .inl (Uj (C := cdPl) a.toNat rfl rfl rfl sl68 (by first | rfl | omega) (hsi.mono (Hp.Ua hz Sz.mx)) (by first | omega | (simp only [ls]; omega)))) ?_
 refine wap 9 18 rfl (by kernel_rfl) (fun _ => U0 rfl rfl uT190 rfl (ce3) (nf3)) ?_
 refine wat 10 17 rfl (by kernel_rfl) (fun _ _ _ hz Sz => .inl (U3 rfl rfl uT3 rfl ((hsi.mono (Hp.Ua hz Sz.mx)).cell Sz.um (i := a.toNat) (by first | omega | (simp only [ls]; omega)) 1 rfl rfl))) ?_
 refine wap 11 16 rfl (by kernel_rfl) (fun _ => U2i rfl rfl rfl (by first | omega | (simp only [ls]; omega))) ?_
 refine wap 12 15 rfl (by kernel_rfl) (fun _ => Uz rfl rfl rfl) ?_
 refine wap 13 14 rfl (by kernel_rfl) (fun _ => run_move rfl rfl) ?_
 refine wap 14 13 rfl (by kernel_rfl) (fun _ => U9 rfl rfl) ?_
 refine wap 15 12 rfl (by kernel_rfl) (fun _ => U0 rfl rfl uT67 rfl (ce64) (nf64)) ?_
 refine wat 16 11 rfl (by kernel_rfl) (fun _ _ _ hz Sz => .inl (U3 rfl rfl uT64 rfl ((hbb.mono (Hp.Ua hz Sz.mx)).cell Sz.um rfl))) ?_
 refine wap 17 10 rfl (by kernel_rfl) (fun _ => U9 rfl rfl) ?_
 refine wap 18 9 rfl (by kernel_rfl) (fun _ => U0 rfl rfl uT70 rfl (ce68) (nf68)) ?_
 refine wat 19 8 rfl (by kernel_rfl) (fun _ _ _ hz Sz => .inl (U3 rfl rfl uT68 rfl ((hsb.mono (Hp.Ua hz Sz.mx)).cell Sz.um rfl))) ?_
 refine wap 20 7 rfl (by kernel_rfl) (fun _ => run_move rfl rfl) ?_
 refine wat 21 6 rfl (by kernel_rfl) (fun _ _ _ hz Sz => .inl (Uj (C := cdPl) a.toNat rfl rfl rfl sl68 (by first | rfl | omega) (hso.mono (Hp.Ua hz Sz.mx)) (by first | omega | (simp only [ls]; omega)))) ?_
 refine wap 22 5 rfl (by kernel_rfl) (fun _ => U0 rfl rfl uT190 rfl (ce3) (nf3)) ?_
 refine wat 23 4 rfl (by kernel_rfl) (fun _ _ _ hz Sz => .inl (U3 rfl rfl uT3 rfl ((hso.mono (Hp.Ua hz Sz.mx)).cell Sz.um (i := a.toNat) (by first | omega | (simp only [ls]; omega)) 1 rfl rfl))) ?_
 refine wap 24 3 rfl (by kernel_rfl) (fun _ => U2i rfl rfl rfl (by first | omega | (simp only [ls]; omega))) ?_
 refine wap 25 2 rfl (by kernel_rfl) (fun _ => Uz rfl rfl rfl) ?_
 refine wap 26 1 rfl (by kernel_rfl) (fun _ => run_assign rfl rfl) ?_
 refine wap 27 0 rfl (by kernel_rfl) (fun _ => run_assign rfl rfl) ?_
 refine Uu (by kernel_rfl) (fun w29 S29 => ?_)
 refine nmk [6, 7] rfl (U4 (U2 Zsy Zsz rfl rfl rfl (U1 rfl (mvs 0 2 rfl rfl ?_))))
 refine Ut (t := 35) rfl (fun hg35 => ?_) (fun hg35 => ?_)
 ·refine mvs 2 3 rfl rfl (wlr 5 rfl (U1j rfl rfl) (mvs 6 1 rfl rfl ?_))
  refine U2x (t := 40) rfl (fun hg40 => ?_) (fun hg40 => ?_)
  ·simp only [Bool.and_eq_true, Bool.or_eq_true, Bool.and_eq_false_iff, Bool.or_eq_false_iff, decide_eq_true_eq, decide_eq_false_iff_not, Bool.not_eq_true', Bool.not_eq_false'] at hg40
   refine mvs 7 1 rfl rfl (wlg 8 9 rfl rfl rfl rfl rfl rfl rfl rfl (Ub rfl rfl (U1j rfl rfl) (mvs 9 3 rfl rfl (U5 rfl (nmk [4, 5] rfl (U4 (Uk hC [_, _] rfl rfl ⟨rfl, rfl, trivial⟩ ?_)))))))
   exact ⟨_, rfl, (S29.pick [] [] (by decide) trivial), (by show Value.tuple [_, _].toArray = _; unfold hgt; rw [← hge1, ← hge2]; refine bb_eq ?_ ?_ <;> first | (refine decide_eq_decide.2 ?_; omega) | (symm; rw [decide_eq_false_iff_not]; omega) | (symm; rw [decide_eq_true_iff]; omega) | (rw [Bool.eq_iff_iff]; simp; omega))⟩
  ·simp only [Bool.and_eq_true, Bool.or_eq_true, Bool.and_eq_false_iff, Bool.or_eq_false_iff, decide_eq_true_eq, decide_eq_false_iff_not, Bool.not_eq_true', Bool.not_eq_false'] at hg40
   refine mvs 7 5 rfl rfl (U5 rfl (nmk [4, 5] rfl (U4 (Uk hC [_, _] rfl rfl ⟨rfl, rfl, trivial⟩ ?_))))
   exact ⟨_, rfl, (S29.pick [] [] (by decide) trivial), (by show Value.tuple [_, _].toArray = _; unfold hgt; rw [← hge1, ← hge2]; refine bb_eq ?_ ?_ <;> first | (refine decide_eq_decide.2 ?_; omega) | (symm; rw [decide_eq_false_iff_not]; omega) | (symm; rw [decide_eq_true_iff]; omega) | (rw [Bool.eq_iff_iff]; simp; omega))⟩
 ·refine mvs 2 3 rfl rfl (wlr 5 rfl (U1j rfl rfl) (mvs 6 1 rfl rfl ?_))
  refine U2x (t := 40) rfl (fun hg40 => ?_) (fun hg40 => ?_)
  ·simp only [Bool.and_eq_true, Bool.or_eq_true, Bool.and_eq_false_iff, Bool.or_eq_false_iff, decide_eq_true_eq, decide_eq_false_iff_not, Bool.not_eq_true', Bool.not_eq_false'] at hg40
   refine mvs 7 1 rfl rfl (wlg 8 9 rfl rfl rfl rfl rfl rfl rfl rfl (Ub rfl rfl (U1j rfl rfl) (mvs 9 3 rfl rfl (U5 rfl (nmk [4, 5] rfl (U4 (Uk hC [_, _] rfl rfl ⟨rfl, rfl, trivial⟩ ?_)))))))
   exact ⟨_, rfl, (S29.pick [] [] (by decide) trivial), (by show Value.tuple [_, _].toArray = _; unfold hgt; rw [← hge1, ← hge2]; refine bb_eq ?_ ?_ <;> first | (refine decide_eq_decide.2 ?_; omega) | (symm; rw [decide_eq_false_iff_not]; omega) | (symm; rw [decide_eq_true_iff]; omega) | (rw [Bool.eq_iff_iff]; simp; omega))⟩
  ·simp only [Bool.and_eq_true, Bool.or_eq_true, Bool.and_eq_false_iff, Bool.or_eq_false_iff, decide_eq_true_eq, decide_eq_false_iff_not, Bool.not_eq_true', Bool.not_eq_false'] at hg40
   refine mvs 7 5 rfl rfl (U5 rfl (nmk [4, 5] rfl (U4 (Uk hC [_, _] rfl rfl ⟨rfl, rfl, trivial⟩ ?_))))
   exact ⟨_, rfl, (S29.pick [] [] (by decide) trivial), (by show Value.tuple [_, _].toArray = _; unfold hgt; rw [← hge1, ← hge2]; refine bb_eq ?_ ?_ <;> first | (refine decide_eq_decide.2 ?_; omega) | (symm; rw [decide_eq_false_iff_not]; omega) | (symm; rw [decide_eq_true_iff]; omega) | (rw [Bool.eq_iff_iff]; simp; omega))⟩
noncomputable def Zt0:=Tryz.f112.body.getD .skip
def Zt1 := cL Zt0
def Zt2 := cR Zt0
def Zt3 := cL Zt2
def Zt4 := cR Zt2
set_option maxRecDepth 10000 in
theorem Set0_b {w : World} {M : Hp} {X : Fr} {ggb ggs : Nat} {vcr fV lV iV oV : Value} (xs : List Cr) (c : Nat) (a : Int) (hc : c < xs.length) (S : SH w M X [Rs.bun [Rs.box ggb 67 [.pointer (some ⟨ggs, 0, none⟩), fV], Rs.box ggs 70 [vcr, lV, iV, oV], Rs.row cdCr vcr xs]]) : C1 Tryz.prog 112 [.pointer (some ⟨ggb, 0, none⟩), .agg [.int .i64 (c : Int), .int .i64 0].toArray, .int .i64 a] w M X (fun u M' r' => u = .tuple [].toArray ∧ M' = M ∧ r' = Rs.bun [Rs.box ggb 67 [.pointer (some ⟨ggs, 0, none⟩), fV], Rs.box ggs 70 [vcr, lV, iV, oV], Rs.row cdCr vcr (U1c xs c 0 a)]) := by
 unfold C1
 replace S := S.unbun
 refine Uo (b := Zt0) Tryz.func112 rfl Tryz.ntmps112 rfl (fun C hC => (U14 [(0, _), (1, _), (2, _)] ⟨rfl, rfl, rfl, trivial⟩ (U2 Zt1 Zt2 rfl rfl rfl (U1 rfl (wlo 0 1 rfl rfl rfl (U18 (l := [_, _]) rfl rfl rfl rfl rfl S ?_))))))
 intro gb1 w1 S1; clear S
 refine U5 rfl (nmk [0, 2, 4] rfl (U4 (U2 Zt3 Zt4 rfl rfl rfl (Ux rfl (by kernel_rfl) S1 12 rfl ?_))))
 clear S1
 refine wap 0 11 rfl (by kernel_rfl) (fun _ => run_move rfl rfl) ?_
 refine wap 1 10 rfl (by kernel_rfl) (fun _ => U9 rfl rfl) ?_
 refine wap 2 9 rfl (by kernel_rfl) (fun _ => U0 rfl rfl uT67 rfl (ce64) (nf64)) ?_
 refine wat 3 8 rfl (by kernel_rfl) (fun _ _ _ hz Sz => .inl (U3 rfl rfl uT64 rfl (Sz.suf.boxc (i := 1) rfl rfl))) ?_
 refine wap 4 7 rfl (by kernel_rfl) (fun _ => U9 rfl rfl) ?_
 refine wap 5 6 rfl (by kernel_rfl) (fun _ => U0 rfl rfl uT70 rfl (ce24) (nf24)) ?_
 refine wap 6 5 rfl (by kernel_rfl) (fun _ => U0 rfl rfl uT24 rfl (ce22) (nf22)) ?_
 refine wat 7 4 rfl (by kernel_rfl) (fun _ _ _ hz Sz => .inl (U3 rfl rfl uT22 rfl (Sz.suf.boxc (i := 2) rfl rfl))) ?_
 refine wap 8 3 rfl (by kernel_rfl) (fun _ => U0 rfl rfl uT190 rfl (ce3) (nf3)) ?_
 refine wat 9 2 rfl (by kernel_rfl) (fun _ _ _ hz Sz => .inl (U3 rfl rfl uT3 rfl (Sz.suf.boxc (i := 0) rfl rfl))) ?_
 refine wat 10 1 rfl (by kernel_rfl) (fun _ _ _ hz Sz => .inl (Ui (C := cdCr) (i := 3) c rfl rfl rfl sl22 Sz.suf rfl (by first | rfl | omega) (by first | omega | (simp only [ls]; omega)))) ?_
 refine wap 11 0 rfl (by kernel_rfl) (fun _ => run_assign rfl rfl) ?_
 refine Uu (by kernel_rfl) (fun w14 S14 => ?_)
 refine nmk [2, 4, 6] rfl (U4 (Ux rfl (by kernel_rfl) S14 19 rfl ?_))
 clear S14
 refine wap 0 18 rfl (by kernel_rfl) (fun _ => run_move rfl rfl) ?_
 refine wap 1 17 rfl (by kernel_rfl) (fun _ => U9 rfl rfl) ?_
 refine wap 2 16 rfl (by kernel_rfl) (fun _ => U0 rfl rfl uT77 rfl (ce3) (nf3)) ?_
 refine wap 3 15 rfl (by kernel_rfl) (fun _ => run_move rfl rfl) ?_
 refine wap 4 14 rfl (by kernel_rfl) (fun _ => U9 rfl rfl) ?_
 refine wap 5 13 rfl (by kernel_rfl) (fun _ => U0 rfl rfl uT77 rfl (ce3) (nf3)) ?_
 refine wap 6 12 rfl (by kernel_rfl) (fun _ => run_move rfl rfl) ?_
 refine wap 7 11 rfl (by kernel_rfl) (fun _ => U9 rfl rfl) ?_
 refine wap 8 10 rfl (by kernel_rfl) (fun _ => U0 rfl rfl uT77 rfl (ce3) (nf3)) ?_
 refine wap 9 9 rfl (by kernel_rfl) (fun _ => run_move rfl rfl) ?_
 refine wap 10 8 rfl (by kernel_rfl) (fun _ => U9 rfl rfl) ?_
 refine wap 11 7 rfl (by kernel_rfl) (fun _ => U0 rfl rfl uT77 rfl (ce3) (nf3)) ?_
 refine wat 12 6 rfl (by kernel_rfl) (fun _ _ _ hz Sz => .inl (U1n (l := [_, _, _, _]) (pl := [(0, 1), (1, 1), (2, 1), (3, 1)]) rfl rfl uT252 zr252 sz251 rfl rfl rfl)) ?_
 refine wap 13 5 rfl (by kernel_rfl) (fun _ => U0 rfl rfl uT190 rfl (ce3) (nf3)) ?_
 refine wat 14 4 rfl (by kernel_rfl) (fun _ _ _ hz Sz => .inl (U3 rfl rfl uT3 rfl (Sz.suf.boxc (i := 0) rfl rfl))) ?_
 refine wat 15 3 rfl (by kernel_rfl) (fun _ _ _ hz Sz => .inl (U3i (e := 0) rfl rfl rfl uT252 uT251 rfl sz251 (by first | rfl | omega) (by first | omega | (simp only [ls]; omega)) rfl)) ?_
 refine wap 16 2 rfl (by kernel_rfl) (fun _ => run_move rfl rfl) ?_
 refine wap 17 1 rfl (by kernel_rfl) (fun _ => U9 rfl rfl) ?_
 refine Um (i := 18) 0 rfl (by kernel_rfl) rfl rfl (fun w34 S34 => ?_)
 refine (U1i (C := cdCr) (i := 3) (e := c) (j := 0) (us := [_]) (H' := [_, _, _, _]) (⟨a, (ga xs c).b, (ga xs c).c, (ga xs c).d, (ga xs c).plus⟩ : Cr) rfl rfl S34 rfl (by first | omega | (simp only [ls]; omega)) rfl rfl rfl sz3 rfl rfl rfl rfl ?_)
 intro w35 S35; clear S34
 refine U10.turn (by kernel_rfl) S35 ?_; clear S35
 change WA _ _ _ _ _ _ _ _ _ _ _ _ [_, _, _, _]
 refine Uu (by kernel_rfl) (fun w36 S36 => ?_)
 refine U2j hC [] rfl trivial ?_
 refine ⟨_, rfl, _, _, Hp.le_refl _, (S36.pick [1, 2, 3] [_, _, _] (by decide) ⟨rfl, rfl, rfl, trivial⟩).bun, ?_⟩
 exact ⟨rfl, rfl, rfl⟩
noncomputable def Zt5:=Tryz.f112.body.getD .skip
def Zt6 := cL Zt5
def Zt7 := cR Zt5
def Zt8 := cL Zt7
def Zt9 := cR Zt7
set_option maxRecDepth 10000 in
theorem Set1_b {w : World} {M : Hp} {X : Fr} {ggb ggs : Nat} {vcr fV lV iV oV : Value} (xs : List Cr) (c : Nat) (a : Int) (hc : c < xs.length) (S : SH w M X [Rs.bun [Rs.box ggb 67 [.pointer (some ⟨ggs, 0, none⟩), fV], Rs.box ggs 70 [vcr, lV, iV, oV], Rs.row cdCr vcr xs]]) : C1 Tryz.prog 112 [.pointer (some ⟨ggb, 0, none⟩), .agg [.int .i64 (c : Int), .int .i64 1].toArray, .int .i64 a] w M X (fun u M' r' => u = .tuple [].toArray ∧ M' = M ∧ r' = Rs.bun [Rs.box ggb 67 [.pointer (some ⟨ggs, 0, none⟩), fV], Rs.box ggs 70 [vcr, lV, iV, oV], Rs.row cdCr vcr (U1c xs c 1 a)]) := by
 unfold C1
 replace S := S.unbun
 refine Uo (b := Zt5) Tryz.func112 rfl Tryz.ntmps112 rfl (fun C hC => (U14 [(0, _), (1, _), (2, _)] ⟨rfl, rfl, rfl, trivial⟩ (U2 Zt6 Zt7 rfl rfl rfl (U1 rfl (wlo 0 1 rfl rfl rfl (U18 (l := [_, _]) rfl rfl rfl rfl rfl S ?_))))))
 intro gb1 w1 S1; clear S
 refine U5 rfl (nmk [0, 2, 4] rfl (U4 (U2 Zt8 Zt9 rfl rfl rfl (Ux rfl (by kernel_rfl) S1 12 rfl ?_))))
 clear S1
 refine wap 0 11 rfl (by kernel_rfl) (fun _ => run_move rfl rfl) ?_
 refine wap 1 10 rfl (by kernel_rfl) (fun _ => U9 rfl rfl) ?_
 refine wap 2 9 rfl (by kernel_rfl) (fun _ => U0 rfl rfl uT67 rfl (ce64) (nf64)) ?_
 refine wat 3 8 rfl (by kernel_rfl) (fun _ _ _ hz Sz => .inl (U3 rfl rfl uT64 rfl (Sz.suf.boxc (i := 1) rfl rfl))) ?_
 refine wap 4 7 rfl (by kernel_rfl) (fun _ => U9 rfl rfl) ?_
 refine wap 5 6 rfl (by kernel_rfl) (fun _ => U0 rfl rfl uT70 rfl (ce24) (nf24)) ?_
 refine wap 6 5 rfl (by kernel_rfl) (fun _ => U0 rfl rfl uT24 rfl (ce22) (nf22)) ?_
 refine wat 7 4 rfl (by kernel_rfl) (fun _ _ _ hz Sz => .inl (U3 rfl rfl uT22 rfl (Sz.suf.boxc (i := 2) rfl rfl))) ?_
 refine wap 8 3 rfl (by kernel_rfl) (fun _ => U0 rfl rfl uT190 rfl (ce3) (nf3)) ?_
 refine wat 9 2 rfl (by kernel_rfl) (fun _ _ _ hz Sz => .inl (U3 rfl rfl uT3 rfl (Sz.suf.boxc (i := 0) rfl rfl))) ?_
 refine wat 10 1 rfl (by kernel_rfl) (fun _ _ _ hz Sz => .inl (Ui (C := cdCr) (i := 3) c rfl rfl rfl sl22 Sz.suf rfl (by first | rfl | omega) (by first | omega | (simp only [ls]; omega)))) ?_
 refine wap 11 0 rfl (by kernel_rfl) (fun _ => run_assign rfl rfl) ?_
 refine Uu (by kernel_rfl) (fun w14 S14 => ?_)
 refine nmk [2, 4, 6] rfl (U4 (Ux rfl (by kernel_rfl) S14 19 rfl ?_))
 clear S14
 refine wap 0 18 rfl (by kernel_rfl) (fun _ => run_move rfl rfl) ?_
 refine wap 1 17 rfl (by kernel_rfl) (fun _ => U9 rfl rfl) ?_
 refine wap 2 16 rfl (by kernel_rfl) (fun _ => U0 rfl rfl uT77 rfl (ce3) (nf3)) ?_
 refine wap 3 15 rfl (by kernel_rfl) (fun _ => run_move rfl rfl) ?_
 refine wap 4 14 rfl (by kernel_rfl) (fun _ => U9 rfl rfl) ?_
 refine wap 5 13 rfl (by kernel_rfl) (fun _ => U0 rfl rfl uT77 rfl (ce3) (nf3)) ?_
 refine wap 6 12 rfl (by kernel_rfl) (fun _ => run_move rfl rfl) ?_
 refine wap 7 11 rfl (by kernel_rfl) (fun _ => U9 rfl rfl) ?_
 refine wap 8 10 rfl (by kernel_rfl) (fun _ => U0 rfl rfl uT77 rfl (ce3) (nf3)) ?_
 refine wap 9 9 rfl (by kernel_rfl) (fun _ => run_move rfl rfl) ?_
 refine wap 10 8 rfl (by kernel_rfl) (fun _ => U9 rfl rfl) ?_
 refine wap 11 7 rfl (by kernel_rfl) (fun _ => U0 rfl rfl uT77 rfl (ce3) (nf3)) ?_
 refine wat 12 6 rfl (by kernel_rfl) (fun _ _ _ hz Sz => .inl (U1n (l := [_, _, _, _]) (pl := [(0, 1), (1, 1), (2, 1), (3, 1)]) rfl rfl uT252 zr252 sz251 rfl rfl rfl)) ?_
 refine wap 13 5 rfl (by kernel_rfl) (fun _ => U0 rfl rfl uT190 rfl (ce3) (nf3)) ?_
 refine wat 14 4 rfl (by kernel_rfl) (fun _ _ _ hz Sz => .inl (U3 rfl rfl uT3 rfl (Sz.suf.boxc (i := 0) rfl rfl))) ?_
 refine wat 15 3 rfl (by kernel_rfl) (fun _ _ _ hz Sz => .inl (U3i (e := 1) rfl rfl rfl uT252 uT251 rfl sz251 (by first | rfl | omega) (by first | omega | (simp only [ls]; omega)) rfl)) ?_
 refine wap 16 2 rfl (by kernel_rfl) (fun _ => run_move rfl rfl) ?_
 refine wap 17 1 rfl (by kernel_rfl) (fun _ => U9 rfl rfl) ?_
 refine Um (i := 18) 0 rfl (by kernel_rfl) rfl rfl (fun w34 S34 => ?_)
 refine (U1i (C := cdCr) (i := 3) (e := c) (j := 1) (us := [_]) (H' := [_, _, _, _]) (⟨(ga xs c).a, a, (ga xs c).c, (ga xs c).d, (ga xs c).plus⟩ : Cr) rfl rfl S34 rfl (by first | omega | (simp only [ls]; omega)) rfl rfl rfl sz3 rfl rfl rfl rfl ?_)
 intro w35 S35; clear S34
 refine U10.turn (by kernel_rfl) S35 ?_; clear S35
 change WA _ _ _ _ _ _ _ _ _ _ _ _ [_, _, _, _]
 refine Uu (by kernel_rfl) (fun w36 S36 => ?_)
 refine U2j hC [] rfl trivial ?_
 refine ⟨_, rfl, _, _, Hp.le_refl _, (S36.pick [1, 2, 3] [_, _, _] (by decide) ⟨rfl, rfl, rfl, trivial⟩).bun, ?_⟩
 exact ⟨rfl, rfl, rfl⟩
noncomputable def Zta:=Tryz.f112.body.getD .skip
def Ztb := cL Zta
def Ztc := cR Zta
def Ztd := cL Ztc
def Zte := cR Ztc
set_option maxRecDepth 10000 in
theorem Set2_b {w : World} {M : Hp} {X : Fr} {ggb ggs : Nat} {vcr fV lV iV oV : Value} (xs : List Cr) (c : Nat) (a : Int) (hc : c < xs.length) (S : SH w M X [Rs.bun [Rs.box ggb 67 [.pointer (some ⟨ggs, 0, none⟩), fV], Rs.box ggs 70 [vcr, lV, iV, oV], Rs.row cdCr vcr xs]]) : C1 Tryz.prog 112 [.pointer (some ⟨ggb, 0, none⟩), .agg [.int .i64 (c : Int), .int .i64 2].toArray, .int .i64 a] w M X (fun u M' r' => u = .tuple [].toArray ∧ M' = M ∧ r' = Rs.bun [Rs.box ggb 67 [.pointer (some ⟨ggs, 0, none⟩), fV], Rs.box ggs 70 [vcr, lV, iV, oV], Rs.row cdCr vcr (U1c xs c 2 a)]) := by
 unfold C1
 replace S := S.unbun
 refine Uo (b := Zta) Tryz.func112 rfl Tryz.ntmps112 rfl (fun C hC => (U14 [(0, _), (1, _), (2, _)] ⟨rfl, rfl, rfl, trivial⟩ (U2 Ztb Ztc rfl rfl rfl (U1 rfl (wlo 0 1 rfl rfl rfl (U18 (l := [_, _]) rfl rfl rfl rfl rfl S ?_))))))
 intro gb1 w1 S1; clear S
 refine U5 rfl (nmk [0, 2, 4] rfl (U4 (U2 Ztd Zte rfl rfl rfl (Ux rfl (by kernel_rfl) S1 12 rfl ?_))))
 clear S1
 refine wap 0 11 rfl (by kernel_rfl) (fun _ => run_move rfl rfl) ?_
 refine wap 1 10 rfl (by kernel_rfl) (fun _ => U9 rfl rfl) ?_
 refine wap 2 9 rfl (by kernel_rfl) (fun _ => U0 rfl rfl uT67 rfl (ce64) (nf64)) ?_
 refine wat 3 8 rfl (by kernel_rfl) (fun _ _ _ hz Sz => .inl (U3 rfl rfl uT64 rfl (Sz.suf.boxc (i := 1) rfl rfl))) ?_
 refine wap 4 7 rfl (by kernel_rfl) (fun _ => U9 rfl rfl) ?_
 refine wap 5 6 rfl (by kernel_rfl) (fun _ => U0 rfl rfl uT70 rfl (ce24) (nf24)) ?_
 refine wap 6 5 rfl (by kernel_rfl) (fun _ => U0 rfl rfl uT24 rfl (ce22) (nf22)) ?_
 refine wat 7 4 rfl (by kernel_rfl) (fun _ _ _ hz Sz => .inl (U3 rfl rfl uT22 rfl (Sz.suf.boxc (i := 2) rfl rfl))) ?_
 refine wap 8 3 rfl (by kernel_rfl) (fun _ => U0 rfl rfl uT190 rfl (ce3) (nf3)) ?_
 refine wat 9 2 rfl (by kernel_rfl) (fun _ _ _ hz Sz => .inl (U3 rfl rfl uT3 rfl (Sz.suf.boxc (i := 0) rfl rfl))) ?_
 refine wat 10 1 rfl (by kernel_rfl) (fun _ _ _ hz Sz => .inl (Ui (C := cdCr) (i := 3) c rfl rfl rfl sl22 Sz.suf rfl (by first | rfl | omega) (by first | omega | (simp only [ls]; omega)))) ?_
 refine wap 11 0 rfl (by kernel_rfl) (fun _ => run_assign rfl rfl) ?_
 refine Uu (by kernel_rfl) (fun w14 S14 => ?_)
 refine nmk [2, 4, 6] rfl (U4 (Ux rfl (by kernel_rfl) S14 19 rfl ?_))
 clear S14
 refine wap 0 18 rfl (by kernel_rfl) (fun _ => run_move rfl rfl) ?_
 refine wap 1 17 rfl (by kernel_rfl) (fun _ => U9 rfl rfl) ?_
 refine wap 2 16 rfl (by kernel_rfl) (fun _ => U0 rfl rfl uT77 rfl (ce3) (nf3)) ?_
 refine wap 3 15 rfl (by kernel_rfl) (fun _ => run_move rfl rfl) ?_
 refine wap 4 14 rfl (by kernel_rfl) (fun _ => U9 rfl rfl) ?_
 refine wap 5 13 rfl (by kernel_rfl) (fun _ => U0 rfl rfl uT77 rfl (ce3) (nf3)) ?_
 refine wap 6 12 rfl (by kernel_rfl) (fun _ => run_move rfl rfl) ?_
 refine wap 7 11 rfl (by kernel_rfl) (fun _ => U9 rfl rfl) ?_
 refine wap 8 10 rfl (by kernel_rfl) (fun _ => U0 rfl rfl uT77 rfl (ce3) (nf3)) ?_
 refine wap 9 9 rfl (by kernel_rfl) (fun _ => run_move rfl rfl) ?_
 refine wap 10 8 rfl (by kernel_rfl) (fun _ => U9 rfl rfl) ?_
 refine wap 11 7 rfl (by kernel_rfl) (fun _ => U0 rfl rfl uT77 rfl (ce3) (nf3)) ?_
 refine wat 12 6 rfl (by kernel_rfl) (fun _ _ _ hz Sz => .inl (U1n (l := [_, _, _, _]) (pl := [(0, 1), (1, 1), (2, 1), (3, 1)]) rfl rfl uT252 zr252 sz251 rfl rfl rfl)) ?_
 refine wap 13 5 rfl (by kernel_rfl) (fun _ => U0 rfl rfl uT190 rfl (ce3) (nf3)) ?_
 refine wat 14 4 rfl (by kernel_rfl) (fun _ _ _ hz Sz => .inl (U3 rfl rfl uT3 rfl (Sz.suf.boxc (i := 0) rfl rfl))) ?_
 refine wat 15 3 rfl (by kernel_rfl) (fun _ _ _ hz Sz => .inl (U3i (e := 2) rfl rfl rfl uT252 uT251 rfl sz251 (by first | rfl | omega) (by first | omega | (simp only [ls]; omega)) rfl)) ?_
 refine wap 16 2 rfl (by kernel_rfl) (fun _ => run_move rfl rfl) ?_
 refine wap 17 1 rfl (by kernel_rfl) (fun _ => U9 rfl rfl) ?_
 refine Um (i := 18) 0 rfl (by kernel_rfl) rfl rfl (fun w34 S34 => ?_)
 refine (U1i (C := cdCr) (i := 3) (e := c) (j := 2) (us := [_]) (H' := [_, _, _, _]) (⟨(ga xs c).a, (ga xs c).b, a, (ga xs c).d, (ga xs c).plus⟩ : Cr) rfl rfl S34 rfl (by first | omega | (simp only [ls]; omega)) rfl rfl rfl sz3 rfl rfl rfl rfl ?_)
 intro w35 S35; clear S34
 refine U10.turn (by kernel_rfl) S35 ?_; clear S35
 change WA _ _ _ _ _ _ _ _ _ _ _ _ [_, _, _, _]
 refine Uu (by kernel_rfl) (fun w36 S36 => ?_)
 refine U2j hC [] rfl trivial ?_
 refine ⟨_, rfl, _, _, Hp.le_refl _, (S36.pick [1, 2, 3] [_, _, _] (by decide) ⟨rfl, rfl, rfl, trivial⟩).bun, ?_⟩
 exact ⟨rfl, rfl, rfl⟩
noncomputable def Ztf:=Tryz.f112.body.getD .skip
def Ztg := cL Ztf
def Zth := cR Ztf
def Zti := cL Zth
def Ztj := cR Zth
set_option maxRecDepth 10000 in
theorem Set3_b {w : World} {M : Hp} {X : Fr} {ggb ggs : Nat} {vcr fV lV iV oV : Value} (xs : List Cr) (c : Nat) (a : Int) (hc : c < xs.length) (S : SH w M X [Rs.bun [Rs.box ggb 67 [.pointer (some ⟨ggs, 0, none⟩), fV], Rs.box ggs 70 [vcr, lV, iV, oV], Rs.row cdCr vcr xs]]) : C1 Tryz.prog 112 [.pointer (some ⟨ggb, 0, none⟩), .agg [.int .i64 (c : Int), .int .i64 3].toArray, .int .i64 a] w M X (fun u M' r' => u = .tuple [].toArray ∧ M' = M ∧ r' = Rs.bun [Rs.box ggb 67 [.pointer (some ⟨ggs, 0, none⟩), fV], Rs.box ggs 70 [vcr, lV, iV, oV], Rs.row cdCr vcr (U1c xs c 3 a)]) := by
 unfold C1
 replace S := S.unbun
 refine Uo (b := Ztf) Tryz.func112 rfl Tryz.ntmps112 rfl (fun C hC => (U14 [(0, _), (1, _), (2, _)] ⟨rfl, rfl, rfl, trivial⟩ (U2 Ztg Zth rfl rfl rfl (U1 rfl (wlo 0 1 rfl rfl rfl (U18 (l := [_, _]) rfl rfl rfl rfl rfl S ?_))))))
 intro gb1 w1 S1; clear S
 refine U5 rfl (nmk [0, 2, 4] rfl (U4 (U2 Zti Ztj rfl rfl rfl (Ux rfl (by kernel_rfl) S1 12 rfl ?_))))
 clear S1
 refine wap 0 11 rfl (by kernel_rfl) (fun _ => run_move rfl rfl) ?_
 refine wap 1 10 rfl (by kernel_rfl) (fun _ => U9 rfl rfl) ?_
 refine wap 2 9 rfl (by kernel_rfl) (fun _ => U0 rfl rfl uT67 rfl (ce64) (nf64)) ?_
 refine wat 3 8 rfl (by kernel_rfl) (fun _ _ _ hz Sz => .inl (U3 rfl rfl uT64 rfl (Sz.suf.boxc (i := 1) rfl rfl))) ?_
 refine wap 4 7 rfl (by kernel_rfl) (fun _ => U9 rfl rfl) ?_
 refine wap 5 6 rfl (by kernel_rfl) (fun _ => U0 rfl rfl uT70 rfl (ce24) (nf24)) ?_
 refine wap 6 5 rfl (by kernel_rfl) (fun _ => U0 rfl rfl uT24 rfl (ce22) (nf22)) ?_
 refine wat 7 4 rfl (by kernel_rfl) (fun _ _ _ hz Sz => .inl (U3 rfl rfl uT22 rfl (Sz.suf.boxc (i := 2) rfl rfl))) ?_
 refine wap 8 3 rfl (by kernel_rfl) (fun _ => U0 rfl rfl uT190 rfl (ce3) (nf3)) ?_
 refine wat 9 2 rfl (by kernel_rfl) (fun _ _ _ hz Sz => .inl (U3 rfl rfl uT3 rfl (Sz.suf.boxc (i := 0) rfl rfl))) ?_
 refine wat 10 1 rfl (by kernel_rfl) (fun _ _ _ hz Sz => .inl (Ui (C := cdCr) (i := 3) c rfl rfl rfl sl22 Sz.suf rfl (by first | rfl | omega) (by first | omega | (simp only [ls]; omega)))) ?_
 refine wap 11 0 rfl (by kernel_rfl) (fun _ => run_assign rfl rfl) ?_
 refine Uu (by kernel_rfl) (fun w14 S14 => ?_)
 refine nmk [2, 4, 6] rfl (U4 (Ux rfl (by kernel_rfl) S14 19 rfl ?_))
 clear S14
 refine wap 0 18 rfl (by kernel_rfl) (fun _ => run_move rfl rfl) ?_
 refine wap 1 17 rfl (by kernel_rfl) (fun _ => U9 rfl rfl) ?_
 refine wap 2 16 rfl (by kernel_rfl) (fun _ => U0 rfl rfl uT77 rfl (ce3) (nf3)) ?_
 refine wap 3 15 rfl (by kernel_rfl) (fun _ => run_move rfl rfl) ?_
 refine wap 4 14 rfl (by kernel_rfl) (fun _ => U9 rfl rfl) ?_
 refine wap 5 13 rfl (by kernel_rfl) (fun _ => U0 rfl rfl uT77 rfl (ce3) (nf3)) ?_
 refine wap 6 12 rfl (by kernel_rfl) (fun _ => run_move rfl rfl) ?_
 refine wap 7 11 rfl (by kernel_rfl) (fun _ => U9 rfl rfl) ?_
 refine wap 8 10 rfl (by kernel_rfl) (fun _ => U0 rfl rfl uT77 rfl (ce3) (nf3)) ?_
 refine wap 9 9 rfl (by kernel_rfl) (fun _ => run_move rfl rfl) ?_
 refine wap 10 8 rfl (by kernel_rfl) (fun _ => U9 rfl rfl) ?_
 refine wap 11 7 rfl (by kernel_rfl) (fun _ => U0 rfl rfl uT77 rfl (ce3) (nf3)) ?_
 refine wat 12 6 rfl (by kernel_rfl) (fun _ _ _ hz Sz => .inl (U1n (l := [_, _, _, _]) (pl := [(0, 1), (1, 1), (2, 1), (3, 1)]) rfl rfl uT252 zr252 sz251 rfl rfl rfl)) ?_
 refine wap 13 5 rfl (by kernel_rfl) (fun _ => U0 rfl rfl uT190 rfl (ce3) (nf3)) ?_
 refine wat 14 4 rfl (by kernel_rfl) (fun _ _ _ hz Sz => .inl (U3 rfl rfl uT3 rfl (Sz.suf.boxc (i := 0) rfl rfl))) ?_
 refine wat 15 3 rfl (by kernel_rfl) (fun _ _ _ hz Sz => .inl (U3i (e := 3) rfl rfl rfl uT252 uT251 rfl sz251 (by first | rfl | omega) (by first | omega | (simp only [ls]; omega)) rfl)) ?_
 refine wap 16 2 rfl (by kernel_rfl) (fun _ => run_move rfl rfl) ?_
 refine wap 17 1 rfl (by kernel_rfl) (fun _ => U9 rfl rfl) ?_
 refine Um (i := 18) 0 rfl (by kernel_rfl) rfl rfl (fun w34 S34 => ?_)
 refine (U1i (C := cdCr) (i := 3) (e := c) (j := 3) (us := [_]) (H' := [_, _, _, _]) (⟨(ga xs c).a, (ga xs c).b, (ga xs c).c, a, (ga xs c).plus⟩ : Cr) rfl rfl S34 rfl (by first | omega | (simp only [ls]; omega)) rfl rfl rfl sz3 rfl rfl rfl rfl ?_)
 intro w35 S35; clear S34
 refine U10.turn (by kernel_rfl) S35 ?_; clear S35
 change WA _ _ _ _ _ _ _ _ _ _ _ _ [_, _, _, _]
 refine Uu (by kernel_rfl) (fun w36 S36 => ?_)
 refine U2j hC [] rfl trivial ?_
 refine ⟨_, rfl, _, _, Hp.le_refl _, (S36.pick [1, 2, 3] [_, _, _] (by decide) ⟨rfl, rfl, rfl, trivial⟩).bun, ?_⟩
 exact ⟨rfl, rfl, rfl⟩
theorem Set_b {w : World} {M : Hp} {X : Fr} {ggb ggs : Nat} {vcr fV lV iV oV : Value} (xs : List Cr) (c k : Nat) (a : Int) (hc : c < xs.length) (hk : k < 4) (S : SH w M X [Rs.bun [Rs.box ggb 67 [.pointer (some ⟨ggs, 0, none⟩), fV], Rs.box ggs 70 [vcr, lV, iV, oV], Rs.row cdCr vcr xs]]) : C1 Tryz.prog 112 [.pointer (some ⟨ggb, 0, none⟩), .agg [.int .i64 (c : Int), .int .i64 (k : Int)].toArray, .int .i64 a] w M X (fun u M' r' => u = .tuple [].toArray ∧ M' = M ∧ r' = Rs.bun [Rs.box ggb 67 [.pointer (some ⟨ggs, 0, none⟩), fV], Rs.box ggs 70 [vcr, lV, iV, oV], Rs.row cdCr vcr (U1c xs c k a)]) := by
 obtain rfl | rfl | rfl | rfl : k = 0 ∨ k = 1 ∨ k = 2 ∨ k = 3 := by omega
 ·exact Set0_b xs c a hc S
 ·exact Set1_b xs c a hc S
 ·exact Set2_b xs c a hc S
 ·exact Set3_b xs c a hc S
end Go.Proofs.YthppkofceancjaaGreat
namespace Go.Proofs.YthppkofceancjaaGreat
open Go.ChangeShapes Go.WideShapes Go.ChangeAt Go.RowKit
def Cto (P : Program) (f : FuncId) (vs : List Value) (w : World) (M : Hp) (X : Fr) (R : Value → Hp → List Rs → Prop) : Prop :=
  Calls P f vs.toArray w fun e w' => ∃ v, e = .returned v ∧ ∃ M' N, M.le M' ∧ SH w' M' X N ∧ R v M' N
section
variable {P : Program} {o : Oper} {L : List (Nat × Value)} {w : World} {n d : Nat} {Kt : List (Nat × Value) → World → Prop} {M : Hp} {X : Fr} {H : List Rs}
theorem wo_cto {f : FuncId} {vs : List Value} {ca : Call} {fo : Operand} {xs : List Operand} (hd : o.dst = some d) (hop : o.op = .call ca) (hca : ca.callee = .value fo) (hfo : oev L fo = some (.func (.func f) #[] #[]))
    (hxs : ca.args = xs.toArray) (hvs : oevs L xs = some vs) (hn : Nat.blt d n = true) (hen : ∀ args w, (callFunc f args).run P w = .ok (.enter f args) w) (S : SH w M X H)
    {R : Value → Hp → List Rs → Prop} (hcall : Cto P f vs w M (XH w X H) R) (h : ∀ v w' M' N, M.le M' → SH w' M' X (N ++ H) → R v M' N → Kt ((d, v) :: L) w') : WO P n o L w Kt :=
  wo_call (R := fun v w' => ∃ M' N, M.le M' ∧ SH w' M' (XH w X H) N ∧ R v M' N) hd hop hca hfo hxs hvs hn hen hcall fun v w' ⟨M', N, h1, h2, h4⟩ => h v w' M' N h1 (S.backN h2) h4
end
section
variable {bf : Nat → Nat} {N : Hp} {gs : List (Option Nat)} {ps : List (Option Pol)} {gss : List (List (Option Nat))} {pss : List (List (Option Pol))} {α : Type} {C : Cd α} {svs : List (List SlV)} {mm : List (List (List α))}
end
end Go.Proofs.YthppkofceancjaaGreat
namespace Go.Proofs.YthppkofceancjaaGreat
open Go.ChangeShapes Go.WideShapes Go.ChangeAt Go.RowKit
def NewB (d : Dg) (v : Value) (N : Hp) (Nl : List Rs) : Prop :=
 (mayB d = false ∧ v = .tuple [.pointer none, .bool false].toArray ∧ Nl = []) ∨
 (mayB d = true ∧ ∃ g vc iA oA ic oc, v = .tuple [.pointer (some ⟨g, 0, none⟩), .bool true].toArray ∧ Nl = [Rs.box g 70 [vc, .int .i64 d.loops, .slice iA (tabL d false (4 * d.crs.length)).length ic, .slice oA (tabL d true (4 * d.crs.length)).length oc], Rs.row cdCr vc d.crs] ∧ RdA cdPl N iA ic (tabL d false (4 * d.crs.length)) ∧ RdA cdPl N oA oc (tabL d true (4 * d.crs.length)))
theorem New_p {w : World} {M : Hp} {X : Fr} (d : Dg) {A : Option Addr} {c : Nat} (h : RdA cdCr (M.un X.h) A c d.crs) (S : SH w M X []) : Cto Tryz.prog 64 [.agg [.slice A d.crs.length c, .int .i64 d.loops].toArray] w M X (NewB d) := by
 refine (New_o d h S).mono ?_
 rintro e w' ⟨v, rfl, N, S1, ⟨hm, rfl, rfl⟩ | ⟨hm, g, vc, vi, vo, rfl, rfl, hv⟩⟩
 ·exact ⟨_, rfl, M, _, Hp.le_refl _, S1, .inl ⟨hm, rfl, rfl⟩⟩
 ·obtain ⟨hn, _⟩ := mayO hm
  have t1 := U1m d false (4 * d.crs.length)
  have t2 := U1m d true (4 * d.crs.length)
  clear hv
  obtain ⟨M2, l2, S3, ⟨iA, ic, rfl, r2⟩⟩ := S1.pubrow (C := cdPl) (xs := tabL d false (4 * d.crs.length)) (i := 2) rfl rfl (by show _ * 16 ≤ _; omega)
  obtain ⟨M3, l3, S4, ⟨oA, oc, rfl, r3⟩⟩ := S3.pubrow (C := cdPl) (xs := tabL d true (4 * d.crs.length)) (i := 3) rfl rfl (by show _ * 16 ≤ _; omega)
  exact ⟨_, rfl, M3, _, l2.trans l3, S4.pick [0, 1] [_, _] (by decide) ⟨rfl, rfl, trivial⟩, .inr ⟨hm, g, vc, iA, oA, ic, oc, rfl, rfl, r2.mono l3, r3⟩⟩
def opB (d : Dg) : Bool := mayB d && planP d
def bnL (d : Dg) (gb gs : Nat) (vcr : Value) (iA oA fA : Option Addr) (ic oc fc : Nat) (fv : List SlV) : List Rs := [Rs.box gb 67 [.pointer (some ⟨gs, 0, none⟩), .slice fA fv.length fc], Rs.box gs 70 [vcr, .int .i64 d.loops, .slice iA (tabL d false (4 * d.crs.length)).length ic, .slice oA (tabL d true (4 * d.crs.length)).length oc], Rs.row cdCr vcr d.crs]
def bnF (d : Dg) (N : Hp) (iA oA fA : Option Addr) (ic oc fc : Nat) (fv : List SlV) : Prop := RdA cdPl N iA ic (tabL d false (4 * d.crs.length)) ∧ RdA cdPl N oA oc (tabL d true (4 * d.crs.length)) ∧ RdA (cdV 141) N fA fc fv ∧ Rd2 cdDa N fv (U6 d)
def OpenR (d : Dg) (v : Value) (N : Hp) (Nl : List Rs) : Prop :=
 (opB d = false ∧ v = .tuple [.pointer none, .bool false].toArray ∧ Nl = []) ∨
 (opB d = true ∧ ∃ gb gs vcr iA oA fA ic oc fc fv, v = .tuple [.pointer (some ⟨gb, 0, none⟩), .bool true].toArray ∧ Nl = bnL d gb gs vcr iA oA fA ic oc fc fv ∧ bnF d N iA oA fA ic oc fc fv)
noncomputable def Ztk:=Tryz.f28.body.getD .skip
def Ztl := cL Ztk
def Ztm := cR Ztk
def Ztn := cL Ztm
def Zto := cR Ztm
def Ztp := cL Zto
def Ztq := cR Zto
def Ztr := cL Ztp
def Zts := cR Ztp
def Ztt := cL Zts
def Ztu := cR Zts
def Ztv := cL Ztt
def Ztw := cR Ztt
def Ztx := cL Ztq
def Zty := cR Ztq
set_option maxRecDepth 10000 in
theorem BOpen_p {w : World} {M : Hp} {X : Fr} (d : Dg) {dcrsA : Option Addr} {dcrsc : Nat} (hdcrs : RdA cdCr (M.un X.h) dcrsA dcrsc d.crs) (S : SH w M X []) : Cto Tryz.prog 28 [.agg [.slice dcrsA d.crs.length dcrsc, .int .i64 d.loops].toArray] w M X (OpenR d) := by
 unfold Cto
 have rmhdcrs : d.crs.length * 40 ≤ 140737488355328 := hdcrs.room
 refine Uo (b := Ztk) Tryz.func28 rfl Tryz.ntmps28 rfl (fun C hC => (U14 [(0, _)] ⟨rfl, trivial⟩ (U2 Ztl Ztm rfl rfl rfl (U1 rfl (wlo 0 1 rfl rfl rfl (U18 (l := [_, _]) rfl rfl rfl rfl rfl S ?_))))))
 intro gb1 w1 S1; clear S
 refine mvs 1 2 rfl rfl (U5 rfl (nmk [1] rfl (U4 (U2 Ztn Zto rfl rfl rfl (U1 rfl (wlr 0 rfl (U8 (us := [_, _]) rfl rfl uT24 rfl sz24 (S1.boxcs (i := 0) rfl ⟨rfl, rfl, trivial⟩)) (wlo 1 2 rfl rfl rfl (wo_cto rfl rfl rfl rfl rfl rfl rfl cf64 S1 (New_p d (hdcrs.mono S1.Uw) S1.lend) ?_))))))))
 intro vw2 w2 M1 Nw2 hle1 S2 hRw2; clear S1
 replace hdcrs := hdcrs.mono (Hp.Ua hle1 S2.mx)
 rcases hRw2 with ⟨hmay8, rfl, rfl⟩ | ⟨hmay8, ggs, vcr, iA, oA, ic, oc, rfl, rfl, hsi, hso⟩
 ·have S3 : SH _ _ _ [_] := S2; clear S2
  refine mvs 2 1 rfl rfl (wlr 3 rfl (Ul rfl rfl rfl) (wlr 4 rfl (Ul rfl rfl rfl) (mvs 5 2 rfl rfl (U5 rfl (nmk [4, 5] rfl (U4 (U2 Ztp Ztq rfl rfl rfl (U2 Ztr Zts rfl rfl rfl ?_))))))))
  refine U1 rfl (mvs 0 1 rfl rfl (wlr 1 rfl (U1j rfl rfl) (mvs 2 5 rfl rfl (U5 rfl (nmk [4, 17] rfl (U4 (U1h Ztt rfl rfl rfl (U2 Ztv Ztw rfl rfl rfl ?_))))))))
  refine U1 rfl (mvs 0 2 rfl rfl (U5 rfl (nmk [2, 3] rfl (U4 (Uk hC [_, _] rfl rfl ⟨rfl, rfl, trivial⟩ ?_)))))
  refine ⟨_, rfl, _, _, hle1, S3.pick [] [] (by decide) trivial, ?_⟩
  exact .inl ⟨by unfold opB; rw [hmay8]; first | rfl | (rw [hpl]; rfl), rfl, rfl⟩
 ·have S4 : SH _ _ _ [_, _, _] := S2; clear S2
  obtain ⟨hn, hab, hlo0, hlo1⟩ := mayO hmay8
  obtain ⟨cA, cc, ecr, _⟩ := S4.sl (i := 1) rfl
  refine mvs 2 1 rfl rfl (wlr 3 rfl (Ul rfl rfl rfl) (wlr 4 rfl (Ul rfl rfl rfl) (mvs 5 2 rfl rfl (U5 rfl (nmk [4, 5] rfl (U4 (U2 Ztp Ztq rfl rfl rfl (U2 Ztr Zts rfl rfl rfl ?_))))))))
  refine U1 rfl (mvs 0 1 rfl rfl (wlr 1 rfl (U1j rfl rfl) (mvs 2 2 rfl rfl (wlg 4 5 rfl rfl rfl rfl rfl rfl rfl rfl (U2w rfl rfl rfl rfl rfl rfl rfl cf65 S4 (Planar_t d (SH.bxOf (N := []) (i := 0) S4 rfl (by rw [ecr])) (SH.rdOf (N := []) (i := 1) S4 rfl ecr (by show _ * 40 ≤ _; omega)) (hsi.mono (Hp.U1p _ _)) (hso.mono (Hp.U1p _ _)) hn hab S4.lend) ?_)))))
  intro vw3 w3 M2 hle2 S5 hRw3; clear S4
  replace hdcrs := hdcrs.mono (Hp.Ua hle2 S5.mx)
  replace hsi := hsi.mono hle2
  replace hso := hso.mono hle2
  obtain rfl := hRw3
  refine wlg 5 6 rfl rfl rfl rfl rfl rfl rfl rfl (Ub rfl rfl (U1j rfl rfl) (mvs 6 1 rfl rfl (U5 rfl (nmk [4, 17] rfl (U4 ?_)))))
  refine U19 Ztt Ztu rfl rfl rfl rfl (fun hb17 => ?_) (fun hb17 => ?_)
  ·simp only [Bool.and_eq_true, Bool.or_eq_true, Bool.and_eq_false_iff, Bool.or_eq_false_iff, decide_eq_true_eq, decide_eq_false_iff_not, Bool.not_eq_true', Bool.not_eq_false'] at hb17
   have hpl : planP d = false := by simpa using hb17
   refine U2 Ztv Ztw rfl rfl rfl (U1 rfl (mvs 0 2 rfl rfl (U5 rfl (nmk [2, 3] rfl (U4 (Uk hC [_, _] rfl rfl ⟨rfl, rfl, trivial⟩ ?_))))))
   refine ⟨_, rfl, _, _, hle1.trans hle2, S5.pick [] [] (by decide) trivial, ?_⟩
   exact .inl ⟨by unfold opB; rw [hmay8]; first | rfl | (rw [hpl]; rfl), rfl, rfl⟩
  ·simp only [Bool.and_eq_true, Bool.or_eq_true, Bool.and_eq_false_iff, Bool.or_eq_false_iff, decide_eq_true_eq, decide_eq_false_iff_not, Bool.not_eq_true', Bool.not_eq_false'] at hb17
   have hpl : planP d = true := by simpa using hb17
   refine Uf rfl (nmk [4] rfl (U4 (U2 Ztx Zty rfl rfl rfl (U1 rfl (mvs 0 2 rfl rfl (wlo 2 3 rfl rfl rfl (U2w rfl rfl rfl rfl rfl rfl rfl cf66 S5 (InF.Faces_t d (SH.bxOf (N := []) (i := 0) S5 rfl (by rw [ecr])) (SH.rdOf (N := []) (i := 1) S5 rfl ecr (by show _ * 40 ≤ _; omega)) (hsi.mono (Hp.U1p _ _)) (hso.mono (Hp.U1p _ _)) hn hab S5.lend) ?_)))))))
   intro vw4 w4 M3 hle3 S6 hRw4; clear S5
   replace hdcrs := hdcrs.mono (Hp.Ua hle3 S6.mx)
   replace hsi := hsi.mono hle3
   replace hso := hso.mono hle3
   obtain ⟨A1, c1, vs1, rfl, hr1, hd1⟩ := hRw4
   have hlenfacesL := hd1.1
   refine wlr 3 rfl (run_build (l := [_, _]) rfl rfl st67 rfl rfl) (wlo 4 5 rfl rfl rfl (U18 (l := [_, _]) rfl rfl rfl rfl rfl S6 ?_))
   intro gb2 w5 S7; clear S6
   refine mvs 5 2 rfl rfl (U5 rfl (nmk [2, 3] rfl (U4 (Uk hC [_, _] rfl rfl ⟨rfl, rfl, trivial⟩ ?_))))
   refine ⟨_, rfl, _, _, (hle1.trans hle2).trans hle3, S7.pick [0, 1, 2] [_, _, _] (by decide) ⟨rfl, rfl, rfl, trivial⟩, ?_⟩
   exact .inr ⟨by unfold opB; rw [hmay8, hpl]; rfl, _, _, _, _, _, _, _, _, _, _, rfl, rfl, hsi, hso, hr1, hd1⟩
end Go.Proofs.YthppkofceancjaaGreat
