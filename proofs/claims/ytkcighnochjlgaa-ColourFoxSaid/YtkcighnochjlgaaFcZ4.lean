/- Part 4 of the proof of the law ColourFox: the walks through its functions and the plain laws that they need. -/
import Derived.Test.YtkcighnochjlgaaFcZ3
import Derived.Lib.AppendZeros
import Derived.Laws.CopyRow
import Derived.Laws.IdiomCopy
import Derived.Lib.SliceRun
set_option linter.unusedSimpArgs false
set_option linter.unusedVariables false
noncomputable section
namespace Go.Proofs.Ytkcighnochjlgaa
open Go.ChangeShapes Go.WideShapes Go.ChangeAt Go.RowKit
structure Da where
 a : Int
 b : Bool
instance : Inhabited Da := ⟨⟨0, false⟩⟩
instance : DecidableEq Da := fun x y => decidable_of_iff (x.a = y.a ∧ x.b = y.b) ⟨fun h => by cases x; cases y; simp at h; simp [h], fun h => by rw [h]; exact ⟨rfl, rfl⟩⟩
def daF (x : Da) : List Value := [.int .i64 x.a, .bool x.b]
def cdDa : Cd Da := ⟨daF, 2, 16, 167, ⟨0, false⟩, fun _ => rfl, by
 intro x u hu
 simp [daF] at hu
 rcases hu with rfl | rfl <;> rfl⟩
def okD (d : Dg) (x : Da) : Prop := 1 ≤ x.a ∧ x.a ≤ 2 * (d.crs.length : Int)
def leftD (d : Dg) (x : Da) : Da := ⟨Uu d (Un d x.a x.b).1 (((Un d x.a x.b).2 + 3) % 4), Ui d (Un d x.a x.b).1 (((Un d x.a x.b).2 + 3) % 4)⟩
theorem Uq {d : Dg} (h : Ue d = true) {i k : Nat} (hi : i < d.crs.length) (hk : k < 4) : 1 ≤ Uu d i k ∧ Uu d i k ≤ 2 * (d.crs.length : Int) := by
 have := arcs_rng h (j := 4 * i + k) (by omega)
 unfold arcJ at this
 rwa [show (4 * i + k) / 4 = i by omega, show (4 * i + k) % 4 = k by omega] at this
theorem endD {d : Dg} (h : Ue d = true) {a : Int} (ha : 1 ≤ a ∧ a ≤ 2 * (d.crs.length : Int)) (b : Bool) : (Un d a b).1 < d.crs.length ∧ (Un d a b).2 < 4 ∧ ga (tabL d b (4 * d.crs.length)) a.toNat = Un d a b ∧ a.toNat < 2 * d.crs.length + 1 ∧ a = (a.toNat : Int) := by
 have e : a = (a.toNat : Int) := by omega
 obtain ⟨h1, h2, h3, _⟩ := endOf_lt h (a := a.toNat) (by omega) (by omega) b
 rw [← e] at h1 h2 h3
 refine ⟨h1, h2, ?_, by omega, e⟩
 rw [U1r (by omega), ← e]
 exact h3
theorem leftD_ok {d : Dg} (h : Ue d = true) {x : Da} (hx : okD d x) : okD d (leftD d x) := by
 obtain ⟨h1, h2, _⟩ := endD h hx x.b
 exact Uq h h1 (Nat.mod_lt _ (by decide))
theorem sl49 : SlOf Try.prog 49 cdCr := ⟨.agg [.int .i64 0, .int .i64 0, .int .i64 0, .int .i64 0, .bool false].toArray, uT49, by kernel_rfl, rfl, by decide, by decide⟩
theorem sl112 : SlOf Try.prog 112 cdPl := ⟨.agg [.int .i64 0, .int .i64 0].toArray, uT112, by kernel_rfl, rfl, by decide, by decide⟩
theorem sl168 : SlOf Try.prog 168 cdDa := ⟨.agg [.int .i64 0, .bool false].toArray, uT168, by kernel_rfl, rfl, by decide, by decide⟩
noncomputable def Z0 := Try.f126.body.getD .skip
set_option maxRecDepth 10000 in
theorem Arc_q {w : World} {M : Hp} {X : Fr} (x : Cr) (k : Nat) (hk : k < 4) (S : SH w M X []) : Cq Try.prog 126 [.agg [.int .i64 x.a, .int .i64 x.b, .int .i64 x.c, .int .i64 x.d, .bool x.plus].toArray, .int .i64 (k : Int)] w M X (fun u => u = .int .i64 (crArc x k)) := by
 unfold Cq
 refine U7 (b := Z0) Try.func126 rfl Try.ntmps126 rfl (fun C hC => (zzwsk [0, 1] rfl (zzsR (zzwU rfl (Uv (l := [_, _, _, _, _]) rfl rfl rfl rfl rfl S ?_)))))
 intro gb1 w1 S1; clear S
 refine zzmv 1 rfl (zzeR [1, 2] rfl (zzwr rfl (zzfa rfl uT111 rfl ce3 nf3) (zzwr rfl (zzld1 rfl uT3 (S1.bc 0 rfl rfl)) (zzwr rfl (zzfa rfl uT111 rfl ce3 nf3) (zzwr rfl (zzld1 rfl uT3 (S1.bc 0 rfl rfl)) (zzwr rfl (zzfa rfl uT111 rfl ce3 nf3) (zzwr rfl (zzld1 rfl uT3 (S1.bc 0 rfl rfl)) (zzwr rfl (zzfa rfl uT111 rfl ce3 nf3) ?_))))))))
 refine zzwr rfl (zzld1 rfl uT3 (S1.bc 0 rfl rfl)) (zzwr rfl (run_buildA (l := [_, _, _, _]) (pl := [(0, 1), (1, 1), (2, 1), (3, 1)]) rfl rfl uT200 zr200 sz3 rfl rfl rfl) (zzmv 1 rfl (zzwr rfl (run_index1 (e := k) rfl rfl rfl uT200 uT3 rfl sz3 (by first | rfl | omega) (by first | omega | (simp only [ls]; omega)) (nth_iv [x.a, x.b, x.c, x.d] k (by simp; first | omega | (simp only [ls]; omega)))) ?_)))
 refine zzmv 1 rfl (zzeT [4] rfl (zzrT hC rfl ?_))
 exact ⟨_, rfl, (S1.pick [] [] (by decide) trivial), (by have e0 : k = 0 ∨ k = 1 ∨ k = 2 ∨ k = 3 := (by omega); rcases e0 with rfl | rfl | rfl | rfl <;> first | rfl | (exfalso; omega))⟩
noncomputable def Z1 := Try.f151.body.getD .skip
set_option maxRecDepth 10000 in
theorem OverIn_q {w : World} {M : Hp} {X : Fr} (x : Cr) (S : SH w M X []) : Cq Try.prog 151 [.agg [.int .i64 x.a, .int .i64 x.b, .int .i64 x.c, .int .i64 x.d, .bool x.plus].toArray] w M X (fun u => u = .int .i64 (overIn x : Int)) := by
 unfold Cq
 refine U7 (b := Z1) Try.func151 rfl Try.ntmps151 rfl (fun C hC => (zzwsk [0] rfl (zzsR (zzwU rfl (Uv (l := [_, _, _, _, _]) rfl rfl rfl rfl rfl S ?_)))))
 intro gb1 w1 S1; clear S
 refine zzmv 1 rfl (zzeS [1] rfl (zzsR (zzwr rfl (zzfa rfl uT111 rfl ce4 nf4) (zzwr rfl (zzld1 rfl uT4 (S1.bc 0 rfl rfl)) (zzeT [4] rfl ?_)))))
 refine zzcN rfl (fun hb4 => ?_) (fun hb4 => ?_)
 ·refine zzsR (zzmv 1 rfl (zzeT [2] rfl (zzrT hC rfl ?_)))
  exact ⟨_, rfl, (S1.pick [] [] (by decide) trivial), (by show Value.int _ _ = _; unfold overIn; rw [hb4]; rfl)⟩
 ·refine zzsK (zznR [] rfl (zzmv 1 rfl (zzeE (U6 (zzrT hC rfl ?_)))))
  exact ⟨_, rfl, (S1.pick [] [] (by decide) trivial), (by show Value.int _ _ = _; unfold overIn; rw [hb4]; rfl)⟩
noncomputable def Z2 := Try.f159.body.getD .skip
set_option maxRecDepth 10000 in
theorem Comes_q {w : World} {M : Hp} {X : Fr} (x : Cr) (k : Nat) (hk : k < 4) (S : SH w M X []) : Cq Try.prog 159 [.agg [.int .i64 x.a, .int .i64 x.b, .int .i64 x.c, .int .i64 x.d, .bool x.plus].toArray, .int .i64 (k : Int)] w M X (fun u => u = .bool (crIn x k)) := by
 unfold Cq
 refine U7 (b := Z2) Try.func159 rfl Try.ntmps159 rfl (fun C hC => (zzwsk [0, 1] rfl (zzsR (zzwU rfl (Uv (l := [_, _, _, _, _]) rfl rfl rfl rfl rfl S ?_)))))
 intro gb1 w1 S1; clear S
 refine zzmv 1 rfl (zzeR [1, 2] rfl (zzmv 3 rfl ?_))
 refine Um (t := 7) rfl (fun hg7 => ?_) (fun hg7 => ?_)
 ·refine zzmv 6 rfl (zzeT [4] rfl (zzrT hC rfl ?_))
  exact ⟨_, rfl, (S1.pick [] [] (by decide) trivial), (by show Value.bool _ = _; refine congrArg Value.bool ?_; unfold crIn; first | (symm; rw [decide_eq_true_iff]; left; omega) | (unfold overIn; refine decide_eq_decide.2 ?_; cases hp9 : x.plus <;> simp <;> omega))⟩
 ·refine zzmv 1 rfl (zzwg rfl (Ut [_, _, _, _, _] rfl uT111 sz111 (S1.bs 0 rfl rfl)) (wlg 5 6 rfl rfl rfl rfl rfl rfl rfl rfl (U26 rfl rfl rfl rfl rfl rfl rfl cf151 S1 (OverIn_q x  S1.lend) ?_)))
  rintro _ w2 S2 rfl; clear S1
  refine zzmv 3 rfl (zzeT [4] rfl (zzrT hC rfl ?_))
  exact ⟨_, rfl, (S2.pick [] [] (by decide) trivial), (by show Value.bool _ = _; refine congrArg Value.bool ?_; unfold crIn; first | (symm; rw [decide_eq_true_iff]; left; omega) | (unfold overIn; refine decide_eq_decide.2 ?_; cases hp9 : x.plus <;> simp <;> omega))⟩
noncomputable def Z3 := Try.f164.body.getD .skip
set_option maxRecDepth 10000 in
theorem At_q {w : World} {M : Hp} {X : Fr} (d : Dg) {gsh : Nat} {cA iA oA : Option Addr} {cc ic oc : Nat} (c k : Nat) (hsb : BxM (M.un X.h) gsh 114 [.slice cA d.crs.length cc, .int .i64 d.loops, .slice iA (tabL d false (4 * d.crs.length)).length ic, .slice oA (tabL d true (4 * d.crs.length)).length oc]) (hsc : RdA cdCr (M.un X.h) cA cc d.crs) (hsi : RdA cdPl (M.un X.h) iA ic (tabL d false (4 * d.crs.length))) (hso : RdA cdPl (M.un X.h) oA oc (tabL d true (4 * d.crs.length))) (hc : c < d.crs.length) (hk : k < 4) (S : SH w M X []) : Cq Try.prog 164 [.pointer (some ⟨gsh, 0, none⟩), .agg [.int .i64 (c : Int), .int .i64 (k : Int)].toArray] w M X (fun u => u = .int .i64 (Uu d c k)) := by
 unfold Cq
 refine U7 (b := Z3) Try.func164 rfl Try.ntmps164 rfl (fun C hC => (zzwsk [0, 1] rfl (zzsR (zzwU rfl (Uv (l := [_, _]) rfl rfl rfl rfl rfl S ?_)))))
 intro gb1 w1 S1; clear S
 refine zzmv 1 rfl (zzeS [0, 3] rfl (zzdW S1 13 ?_))
 clear S1
 refine zzmW 11 [0, 1] rfl (zzpW 2 rfl (zzfa rfl uT114 rfl ce51 nf51) (zzpW 3 rfl (zzfa rfl uT51 rfl ce49 nf49) (zzlW 4 rfl (fun hZz Sz => zzld1 rfl uT49 ((hsb.mono (Hp.U0 hZz Sz.mx)).cell Sz.um rfl)) (zzpW 5 rfl (zzfa rfl uT196 rfl ce3 nf3) (zzlW 6 rfl (fun hZz Sz => zzld1 rfl uT3 (Sz.suf.bc 0 rfl rfl)) (zzlW 7 rfl (fun hZz Sz => Ux c rfl sl49 (hsc.mono (Hp.U0 hZz Sz.mx))) (zzlW 8 rfl (fun hZz Sz => Ut [_, _, _, _, _] rfl uT111 sz111 ((hsc.mono (Hp.U0 hZz Sz.mx)).U1p Sz.um (e := c) (by first | omega | (simp only [ls]; omega)) (j := 0) ⟨rfl, rfl, rfl, rfl, rfl, trivial⟩)) ?_)))))))
 refine zzpW 9 rfl (zzfa rfl uT196 rfl ce3 nf3) (zzlW 10 rfl (fun hZz Sz => zzld1 rfl uT3 (Sz.suf.bc 0 rfl rfl)) (zzyW 11 rfl (fun hZz Sz => U1j rfl rfl rfl rfl rfl cf126 Sz (Arc_q (ga d.crs c) k (by omega) Sz.lend)) ?_))
 refine zzmW 0 [12] rfl (zzeW (fun w15 S15 => (zznT [4] rfl (zzrT hC rfl ?_))))
 exact ⟨_, rfl, (S15.pick [] [] (by decide) trivial), rfl⟩
noncomputable def Z4 := Try.f116.body.getD .skip
set_option maxRecDepth 10000 in
theorem Arcs_q {w : World} {M : Hp} {X : Fr} (d : Dg) {gsh : Nat} {cA iA oA : Option Addr} {cc ic oc : Nat} (hsb : BxM (M.un X.h) gsh 114 [.slice cA d.crs.length cc, .int .i64 d.loops, .slice iA (tabL d false (4 * d.crs.length)).length ic, .slice oA (tabL d true (4 * d.crs.length)).length oc]) (hsc : RdA cdCr (M.un X.h) cA cc d.crs) (hsi : RdA cdPl (M.un X.h) iA ic (tabL d false (4 * d.crs.length))) (hso : RdA cdPl (M.un X.h) oA oc (tabL d true (4 * d.crs.length))) (hn : d.crs.length ≤ 16) (S : SH w M X []) : Cq Try.prog 116 [.pointer (some ⟨gsh, 0, none⟩)] w M X (fun u => u = .int .i64 (2 * (d.crs.length : Int))) := by
 unfold Cq
 refine U7 (b := Z4) Try.func116 rfl Try.ntmps116 rfl (fun C hC => (zzwsk [0] rfl (zzsR (zzmv 1 rfl (zzeR [0] rfl (zzmv 2 rfl (zzwr rfl (zzfa rfl uT114 rfl ce51 nf51) (zzwr rfl (zzfa rfl uT51 rfl ce49 nf49) (zzwr rfl (zzld1 rfl uT49 (hsb.cell S.um rfl)) ?_)))))))))
 refine zzwr rfl (zzln rfl uT49) (zzwr rfl (run_mul rfl rfl rfl (by first | omega | (simp only [ls]; omega))) ?_)
 refine zzmv 1 rfl (zzeT [2] rfl (zzrT hC rfl ?_))
 exact ⟨_, rfl, (S.pick [] [] (by decide) trivial), rfl⟩
end Go.Proofs.Ytkcighnochjlgaa
namespace Go.Proofs.Ytkcighnochjlgaa
open Go.RowKit
namespace Fx
def cmb (a : Nat → Int) (T : Nat → Nat → Int) : Nat → Nat → Int
  | 0, _ => 0
  | n + 1, j => cmb a T n j + a n * T n j
def Spn (p : Int) (m n : Nat) (T : Nat → Nat → Int) (v : Nat → Int) : Prop := ∃ a, ∀ j, j < m → p ∣ v j - cmb a T n j
def Led (p : Int) (m n : Nat) (T : Nat → Nat → Int) (c : Nat) : Prop := ∃ v, Spn p m n T v ∧ (∀ j, j < c → p ∣ v j) ∧ ¬ p ∣ v c
open Classical in
noncomputable def ldc (p : Int) (m n : Nat) (T : Nat → Nat → Int) : Nat → Nat
  | 0 => 0
  | c + 1 => ldc p m n T c + if Led p m n T c then 1 else 0
def Inv (p : Int) : Prop := ∀ x : Int, ¬ p ∣ x → ∃ y, p ∣ x * y - 1
theorem dvd_lin {p x y z : Int} (h1 : p ∣ x) (h2 : p ∣ y) (e : z = x + y) : p ∣ z := e ▸ Int.dvd_add h1 h2
theorem U16 {p x y z : Int} (h1 : p ∣ x) (h2 : p ∣ y) (e : z = x - y) : p ∣ z := e ▸ Int.dvd_sub h1 h2
theorem U1l {p x : Int} (h : p ∣ x) (y : Int) : p ∣ y * x := Int.dvd_trans h (Int.dvd_mul_left y x)
theorem dvd_mull {p x : Int} (h : p ∣ x) (y : Int) : p ∣ x * y := Int.dvd_trans h (Int.dvd_mul_right x y)
theorem cmb_add (a b : Nat → Int) (x : Int) (T : Nat → Nat → Int) (j : Nat) : ∀ n, cmb (fun i => a i + x * b i) T n j = cmb a T n j + x * cmb b T n j
  | 0 => by simp [cmb]
  | n + 1 => by
    simp only [cmb, cmb_add a b x T j n, Int.add_mul, Int.mul_add, Int.mul_assoc]
    omega
theorem cmb_unit (T : Nat → Nat → Int) (i j : Nat) : ∀ n, cmb (fun k => if k = i then 1 else 0) T n j = if i < n then T i j else 0
  | 0 => by simp [cmb]
  | n + 1 => by
    simp only [cmb, cmb_unit T i j n]
    by_cases h : i < n
    · have h2 : ¬ n = i := by omega
      have h3 : i < n + 1 := by omega
      simp [h, h2, h3]
    · by_cases h2 : n = i
      · subst h2; simp
      · have h3 : ¬ i < n + 1 := by omega
        simp [h, h2, h3]
theorem cmb_dvd {p : Int} {a : Nat → Int} {T : Nat → Nat → Int} {j : Nat} : ∀ n, (∀ k, k < n → p ∣ a k * T k j) → p ∣ cmb a T n j
  | 0, _ => by simp [cmb]
  | n + 1, h => Int.dvd_add (cmb_dvd n fun k hk => h k (by omega)) (h n (by omega))
theorem cmb_one {p : Int} {a : Nat → Int} {T : Nat → Nat → Int} {i j : Nat} : ∀ n, (∀ k, k < n → k ≠ i → p ∣ T k j) → p ∣ cmb a T n j - if i < n then a i * T i j else 0
  | 0, _ => by simp [cmb]
  | n + 1, h => by
    have ih := cmb_one (a := a) n fun k hk hne => h k (by omega) hne
    simp only [cmb]
    by_cases h1 : i < n
    · rw [if_pos h1] at ih
      rw [if_pos (by omega)]
      exact dvd_lin ih (U1l (h n (by omega) (by omega)) (a n)) (by omega)
    · rw [if_neg h1] at ih
      by_cases h2 : i = n
      · subst h2
        rw [if_pos (by omega)]
        have e : cmb a T i j + a i * T i j - a i * T i j = cmb a T i j - 0 := by omega
        rw [e]; exact ih
      · rw [if_neg (by omega)]
        exact dvd_lin ih (U1l (h n (by omega) (fun x => h2 x.symm)) (a n)) (by omega)
theorem spn_lin {p : Int} {m n : Nat} {T : Nat → Nat → Int} {u v w : Nat → Int} (hu : Spn p m n T u) (hv : Spn p m n T v) (x : Int) (hw : ∀ j, j < m → p ∣ w j - (u j + x * v j)) : Spn p m n T w := by
  obtain ⟨a, ha⟩ := hu
  obtain ⟨b, hb⟩ := hv
  refine ⟨fun i => a i + x * b i, fun j hj => ?_⟩
  rw [cmb_add]
  have h1 := ha j hj
  have h2 := U1l (hb j hj) x
  have h3 := hw j hj
  refine dvd_lin h3 (Int.dvd_add h1 h2) ?_
  rw [Int.mul_sub]; omega
theorem spn_zero {p : Int} {m n : Nat} {T : Nat → Nat → Int} {v : Nat → Int} (h : ∀ j, j < m → p ∣ v j) : Spn p m n T v :=
  ⟨fun _ => 0, fun j hj => by
    have : cmb (fun _ => 0) T n j = 0 := by
      induction n with
      | zero => rfl
      | succ n ih => simp [cmb, ih]
    rw [this]; simpa using h j hj⟩
theorem spn_row {p : Int} {m n : Nat} {T : Nat → Nat → Int} {i : Nat} (hi : i < n) {v : Nat → Int} (h : ∀ j, j < m → p ∣ v j - T i j) : Spn p m n T v :=
  ⟨fun k => if k = i then 1 else 0, fun j hj => by rw [cmb_unit, if_pos hi]; exact h j hj⟩
theorem spn_cmb {p : Int} {m n n' : Nat} {T T' : Nat → Nat → Int} (a : Nat → Int) : ∀ k, (∀ i, i < k → Spn p m n T (T' i)) → Spn p m n T (cmb a T' k)
  | 0, _ => spn_zero fun j _ => by simp [cmb]
  | k + 1, h => spn_lin (spn_cmb (n' := n') a k fun i hi => h i (by omega)) (h k (by omega)) (a k) fun j _ => by simp [cmb]
theorem spn_le {p : Int} {m n n' : Nat} {T T' : Nat → Nat → Int} (h : ∀ i, i < n' → Spn p m n T (T' i)) {v : Nat → Int} (hv : Spn p m n' T' v) : Spn p m n T v := by
  obtain ⟨a, ha⟩ := hv
  refine spn_lin (spn_cmb (n' := n) a n' h) (spn_zero (v := fun _ => 0) fun _ _ => by simp) 0 fun j hj => ?_
  simpa using ha j hj
def Same (p : Int) (m n : Nat) (T T' : Nat → Nat → Int) : Prop := ∀ v, Spn p m n T v ↔ Spn p m n T' v
theorem Same.refl (p : Int) (m n : Nat) (T : Nat → Nat → Int) : Same p m n T T := fun _ => Iff.rfl
theorem Same.trans {p : Int} {m n : Nat} {T T' T2 : Nat → Nat → Int} (h : Same p m n T T') (h2 : Same p m n T' T2) : Same p m n T T2 := fun v => (h v).trans (h2 v)
theorem Same.symm {p : Int} {m n : Nat} {T T' : Nat → Nat → Int} (h : Same p m n T T') : Same p m n T' T := fun v => (h v).symm
theorem Same.led {p : Int} {m n : Nat} {T T' : Nat → Nat → Int} (h : Same p m n T T') (c : Nat) : Led p m n T c ↔ Led p m n T' c :=
  ⟨fun ⟨v, h1, h2⟩ => ⟨v, (h v).1 h1, h2⟩, fun ⟨v, h1, h2⟩ => ⟨v, (h v).2 h1, h2⟩⟩
theorem Same.ldc {p : Int} {m n : Nat} {T T' : Nat → Nat → Int} (h : Same p m n T T') : ∀ c, Fx.ldc p m n T c = Fx.ldc p m n T' c
  | 0 => rfl
  | c + 1 => by
    show _ + _ = _ + _
    rw [Same.ldc h c]
    by_cases g : Led p m n T c
    · rw [if_pos g, if_pos ((h.led c).1 g)]
    · rw [if_neg g, if_neg fun x => g ((h.led c).2 x)]
theorem same_cong {p : Int} {m n : Nat} {T T' : Nat → Nat → Int} (h : ∀ i, i < n → ∀ j, j < m → p ∣ T' i j - T i j) : Same p m n T T' := fun v =>
  ⟨spn_le fun i hi => spn_row hi fun j hj => by have := Int.dvd_neg.2 (h i hi j hj); rwa [Int.neg_sub] at this, spn_le fun i hi => spn_row hi fun j hj => h i hi j hj⟩
theorem same_elim {p : Int} {m n : Nat} {T T' : Nat → Nat → Int} {o : Nat} (ho : o < n) (g : Nat → Int) (h0 : ∀ j, j < m → p ∣ T' o j - T o j)
    (h : ∀ i, i < n → i ≠ o → ∀ j, j < m → p ∣ T' i j - (T i j + g i * T o j)) : Same p m n T T' := by
  have r0 : ∀ i, i < n → Spn p m n T (T i) := fun i hi => spn_row hi fun j _ => by simp
  have r1 : ∀ i, i < n → Spn p m n T' (T' i) := fun i hi => spn_row hi fun j _ => by simp
  refine fun v => ⟨spn_le fun i hi => ?_, spn_le fun i hi => ?_⟩
  · by_cases hio : i = o
    · subst hio
      exact spn_row hi fun j hj => by have := Int.dvd_neg.2 (h0 j hj); rwa [Int.neg_sub] at this
    · refine spn_lin (r1 i hi) (r1 o ho) (- g i) fun j hj => ?_
      have h1 := h i hi hio j hj
      have h2 := U1l (h0 j hj) (g i)
      refine U16 h2 h1 ?_
      rw [Int.mul_sub, Int.neg_mul]; omega
  · by_cases hio : i = o
    · subst hio; exact spn_row hi fun j hj => h0 j hj
    · exact spn_lin (r0 i hi) (r0 o ho) (g i) fun j hj => h i hi hio j hj
theorem same_perm {p : Int} {m n : Nat} {T T' : Nat → Nat → Int} (f : Nat → Nat) (hf : ∀ i, i < n → f i < n) (hff : ∀ i, i < n → f (f i) = i) (h : ∀ i, i < n → ∀ j, j < m → T' i j = T (f i) j) : Same p m n T T' := fun v =>
  ⟨spn_le fun i hi => spn_row (hf i hi) fun j hj => by rw [h _ (hf i hi) j hj, hff i hi]; simp, spn_le fun i hi => spn_row (hf i hi) fun j hj => by rw [h i hi j hj]; simp⟩
structure St (p : Int) (m n : Nat) (T : Nat → Nat → Int) (us : Nat → Bool) (pi : Nat → Nat) (c : Nat) : Prop where
  used : ∀ i, i < n → us i = true → pi i < c ∧ ¬ p ∣ T i (pi i) ∧ ∀ k, k < n → k ≠ i → p ∣ T k (pi i)
  rest : ∀ i, i < n → us i = false → ∀ j, j < c → p ∣ T i j
theorem St.start (p : Int) (m n : Nat) (T : Nat → Nat → Int) {us : Nat → Bool} (h : ∀ i, i < n → us i = false) (pi : Nat → Nat) : St p m n T us pi 0 :=
  ⟨fun i hi hu => absurd hu (by rw [h i hi]; simp), fun _ _ _ j hj => absurd hj (Nat.not_lt_zero j)⟩
theorem Inv.cancel {p : Int} (hp : Inv p) {x y : Int} (hy : ¬ p ∣ y) (h : p ∣ x * y) : p ∣ x := by
  obtain ⟨z, hz⟩ := hp y hy
  refine U16 (dvd_mull h z) (U1l hz x) ?_
  rw [Int.mul_sub, Int.mul_assoc]; omega
theorem St.none {p : Int} {m n : Nat} {T : Nat → Nat → Int} {us : Nat → Bool} {pi : Nat → Nat} {c : Nat} (hp : Inv p) (hc : c < m) (S : St p m n T us pi c) (h : ∀ i, i < n → us i = false → p ∣ T i c) : ¬ Led p m n T c := by
  rintro ⟨v, ⟨a, ha⟩, h1, h2⟩
  apply h2
  have hcm : p ∣ cmb a T n c := by
    refine cmb_dvd n fun k hk => ?_
    by_cases hu : us k = true
    · obtain ⟨g1, g2, g3⟩ := S.used k hk hu
      have h3 := cmb_one (a := a) (i := k) (j := pi k) n fun x hx hne => g3 x hx hne
      rw [if_pos hk] at h3
      have h4 := ha (pi k) (by omega)
      have h5 := h1 (pi k) g1
      have h6 : p ∣ a k * T k (pi k) := U16 (U16 h5 h4 rfl) h3 (by omega)
      exact dvd_mull (hp.cancel g2 h6) _
    · exact U1l (h k hk (by simpa using hu)) _
  exact dvd_lin (ha c hc) hcm (by omega)
theorem St.some {p : Int} {m n : Nat} {T : Nat → Nat → Int} {us : Nat → Bool} {pi : Nat → Nat} {c i : Nat} (S : St p m n T us pi c) (hi : i < n) (hu : us i = false) (h : ¬ p ∣ T i c) : Led p m n T c :=
  ⟨T i, spn_row hi fun j _ => by simp, fun j hj => S.rest i hi hu j hj, h⟩
theorem St.pass {p : Int} {m n : Nat} {T : Nat → Nat → Int} {us : Nat → Bool} {pi : Nat → Nat} {c : Nat} (S : St p m n T us pi c) (h : ∀ i, i < n → us i = false → p ∣ T i c) : St p m n T us pi (c + 1) :=
  ⟨fun i hi hu => by obtain ⟨g1, g2⟩ := S.used i hi hu; exact ⟨by omega, g2⟩, fun i hi hu j hj => by
    by_cases e : j = c
    · subst e; exact h i hi hu
    · exact S.rest i hi hu j (by omega)⟩
theorem St.hit {p : Int} {m n : Nat} {T T' : Nat → Nat → Int} {us us' : Nat → Bool} {pi : Nat → Nat} {c o : Nat} (hc : c < m) (S : St p m n T us pi c) (ho : o < n) (hu : us o = false) (hpv : ¬ p ∣ T o c) (g : Nat → Int)
    (h0 : ∀ j, j < m → p ∣ T' o j - T o j) (h : ∀ i, i < n → i ≠ o → ∀ j, j < m → p ∣ T' i j - (T i j + g i * T o j)) (hz : ∀ i, i < n → i ≠ o → p ∣ T' i c) (hus : ∀ i, i < n → us' i = if i = o then true else us i) :
    St p m n T' us' (fun i => if i = o then c else pi i) (c + 1) := by
  have key : ∀ i, i < n → ∀ j, j < c → p ∣ T i j → p ∣ T' i j := by
    intro i hi j hj hd
    by_cases hio : i = o
    · subst hio; exact dvd_lin (h0 j (by omega)) hd (by omega)
    · have h1 := h i hi hio j (by omega)
      have h2 := U1l (S.rest o ho hu j hj) (g i)
      exact dvd_lin h1 (Int.dvd_add hd h2) (by omega)
  refine ⟨fun i hi hu' => ?_, fun i hi hu' j hj => ?_⟩
  · rw [hus i hi] at hu'
    by_cases hio : i = o
    · subst hio
      simp only [if_true]
      exact ⟨by omega, fun x => hpv (U16 x (h0 c hc) (by omega)), fun k hk hne => hz k hk hne⟩
    · rw [if_neg hio] at hu'
      simp only [if_neg hio]
      obtain ⟨g1, g2, g3⟩ := S.used i hi hu'
      refine ⟨by omega, fun x => g2 ?_, fun k hk hne => key k hk _ g1 (g3 k hk hne)⟩
      have h1 := h i hi hio (pi i) (by omega)
      have h2 := U1l (g3 o ho fun e => hio e.symm) (g i)
      exact U16 (U16 x h1 rfl) h2 (by omega)
  · rw [hus i hi] at hu'
    by_cases hio : i = o
    · rw [if_pos hio] at hu'; cases hu'
    · rw [if_neg hio] at hu'
      by_cases e : j = c
      · subst e; exact hz i hi hio
      · exact key i hi j (by omega) (S.rest i hi hu' j (by omega))
theorem ldc_hit {p : Int} {m n : Nat} {T : Nat → Nat → Int} {c : Nat} (h : Led p m n T c) : ldc p m n T (c + 1) = ldc p m n T c + 1 := by
  show _ + _ = _; rw [if_pos h]
theorem ldc_pass {p : Int} {m n : Nat} {T : Nat → Nat → Int} {c : Nat} (h : ¬ Led p m n T c) : ldc p m n T (c + 1) = ldc p m n T c := by
  show _ + _ = _; rw [if_neg h]; rfl
theorem St.full {p : Int} {m n : Nat} {T : Nat → Nat → Int} {us : Nat → Bool} {pi : Nat → Nat} {c : Nat} (hp : Inv p) (S : St p m n T us pi c) (h : ∀ i, i < n → us i = true) : ∀ k, c + k ≤ m → ldc p m n T (c + k) = ldc p m n T c
  | 0, _ => rfl
  | k + 1, hk => by
    have S2 : St p m n T us pi (c + k) := ⟨fun i hi hu => by obtain ⟨g1, g2⟩ := S.used i hi hu; exact ⟨by omega, g2⟩, fun i hi hu => by rw [h i hi] at hu; cases hu⟩
    have h1 : ¬ Led p m n T (c + k) := S2.none hp (by omega) fun i hi hu => by rw [h i hi] at hu; cases hu
    show ldc p m n T (c + k + 1) = _
    rw [ldc_pass h1, St.full hp S h k (by omega)]
theorem ldc_le (p : Int) (m n : Nat) (T : Nat → Nat → Int) : ∀ c, ldc p m n T c ≤ c
  | 0 => Nat.le_refl 0
  | c + 1 => by
    have := ldc_le p m n T c
    show _ + _ ≤ _
    split <;> omega
end Fx
end Go.Proofs.Ytkcighnochjlgaa
namespace Go.Proofs.Ytkcighnochjlgaa
open Go.RowKit
namespace Fx
theorem tm_dvd (p x : Int) : p ∣ x - x.tmod p := ⟨x.tdiv p, by rw [Int.tmod_def]; omega⟩
theorem tm_abs {p : Int} (hp : 0 < p) (x : Int) : -p < x.tmod p ∧ x.tmod p < p := by
  have h := Int.natAbs_tmod x p
  have h2 : x.natAbs % p.natAbs < p.natAbs := Nat.mod_lt _ (by omega)
  omega
theorem tm_pos {p x : Int} (hp : 0 < p) (hx : 0 ≤ x) : 0 ≤ x.tmod p ∧ x.tmod p < p := ⟨Int.tmod_nonneg _ hx, Int.tmod_lt_of_pos _ hp⟩
theorem tm_zero {p x : Int} : x.tmod p = 0 ↔ p ∣ x := ⟨Int.dvd_of_tmod_eq_zero, Int.tmod_eq_zero_of_dvd⟩
def U2a (p : Nat) : Bool := decide (2 ≤ p) && (List.range p).all fun x => decide (x < 2) || decide (p % x ≠ 0)
def invOk : Bool := (List.range 98).all fun p => !U2a p || (List.range p).all fun a => a == 0 || (List.range p).any fun k => a * k % p == 1
theorem invOk_true : invOk = true := by kernel_rfl
theorem inv_ex {p : Nat} (hp : U2a p = true) (h97 : p ≤ 97) {a : Nat} (ha : a < p) (h0 : a ≠ 0) : ∃ k, k < p ∧ a * k % p = 1 := by
  have h := invOk_true
  unfold invOk at h
  rw [List.all_eq_true] at h
  have h1 := h p (by simp; omega)
  rw [hp, Bool.not_true, Bool.false_or, List.all_eq_true] at h1
  have h2 := h1 a (by simpa using ha)
  simp only [Bool.or_eq_true, beq_iff_eq, List.any_eq_true, List.mem_range] at h2
  rcases h2 with h2 | ⟨k, hk, e⟩
  · exact absurd h2 h0
  · exact ⟨k, hk, e⟩
theorem prime_inv {p : Nat} (hp : U2a p = true) (h97 : p ≤ 97) : Inv (p : Int) := by
  have h2 : 2 ≤ p := by unfold U2a at hp; simp at hp; exact hp.1
  intro x hx
  have e0 : 0 ≤ x % (p : Int) := Int.emod_nonneg _ (by omega)
  have e1 : x % (p : Int) < p := Int.emod_lt_of_pos _ (by omega)
  have hne : x % (p : Int) ≠ 0 := fun e => hx (Int.dvd_of_emod_eq_zero e)
  obtain ⟨k, hk, e⟩ := inv_ex hp h97 (a := (x % (p : Int)).toNat) (by omega) (by omega)
  refine ⟨k, ?_⟩
  have h3 : ((p : Int)) ∣ x - x % (p : Int) := Int.dvd_self_sub_emod
  have h4 : ((p : Int)) ∣ x % (p : Int) * k - 1 := by
    have h5 : ((((x % (p : Int)).toNat * k : Nat) : Int)) % (p : Int) = 1 := by exact_mod_cast congrArg (Nat.cast : Nat → Int) e
    have h6 : ((((x % (p : Int)).toNat * k : Nat) : Int)) = x % (p : Int) * k := by push_cast; rw [Int.toNat_of_nonneg e0]
    rw [h6] at h5
    have h7 : ((p : Int)) ∣ x % (p : Int) * k - (x % (p : Int) * k) % (p : Int) := Int.dvd_self_sub_emod
    rwa [h5] at h7
  refine dvd_lin (dvd_mull h3 k) h4 ?_
  rw [Int.sub_mul]; omega
def tf (tb : List (List Int)) : Nat → Nat → Int := fun i j => ga (ga tb i) j
def elV (p g x y : Int) : Int := ((x - g * y).tmod p + p).tmod p
theorem elV_ok {p : Int} (hp : 0 < p) (g x y : Int) : 0 ≤ elV p g x y ∧ elV p g x y < p ∧ p ∣ elV p g x y - (x + (-g) * y) := by
  have h1 := tm_abs hp (x - g * y)
  have h2 := tm_pos hp (x := (x - g * y).tmod p + p) (by omega)
  refine ⟨h2.1, h2.2, ?_⟩
  have h3 := tm_dvd p (x - g * y)
  have h4 := tm_dvd p ((x - g * y).tmod p + p)
  unfold elV
  refine U16 (Int.dvd_neg.2 h3) (Int.dvd_sub h4 (Int.dvd_refl p)) ?_
  rw [Int.neg_mul]; omega
def elG (p f : Int) (c : Nat) (row : List Int) : Int := (ga row c * f).tmod p
def elR (p g : Int) (piv row : List Int) : List Int := (List.range row.length).map fun x => elV p g (ga row x) (ga piv x)
theorem elR_ga {p g : Int} {piv row : List Int} {x : Nat} (hx : x < row.length) : ga (elR p g piv row) x = elV p g (ga row x) (ga piv x) := by
  unfold elR
  have e : ga (List.range row.length) x = x := by rw [U14 (by simpa using hx)]; simp
  rw [ga_map _ _ _ (by simpa using hx), e]
theorem elR_len (p g : Int) (piv row : List Int) : (elR p g piv row).length = row.length := by simp [elR]
structure FP (p : Int) (m : Nat) (xss tb : List (List Int)) (c out : Nat) : Prop where
  len : tb.length = xss.length
  row : ∀ i, i < xss.length → (ga tb i).length = m
  rng : ∀ i, i < xss.length → ∀ j, j < m → 0 ≤ ga (ga tb i) j ∧ ga (ga tb i) j < p
  le : out ≤ xss.length
  st : ∃ pi, St p m xss.length (tf tb) (fun i => decide (i < out)) pi c
  same : Same p m xss.length (tf xss) (tf tb)
  cnt : ldc p m xss.length (tf xss) c = out
theorem FP.start {p : Int} {m : Nat} {xss : List (List Int)} (h1 : ∀ i, i < xss.length → (ga xss i).length = m) (h2 : ∀ i, i < xss.length → ∀ j, j < m → 0 ≤ ga (ga xss i) j ∧ ga (ga xss i) j < p) : FP p m xss xss 0 0 :=
  ⟨rfl, h1, h2, Nat.zero_le _, ⟨fun _ => 0, St.start p m _ _ (fun i _ => by simp) _⟩, Same.refl p m _ _, rfl⟩
theorem FP.pass {p : Int} {m : Nat} {xss tb : List (List Int)} {c out : Nat} (hp : Inv p) (F : FP p m xss tb c out) (hc : c < m) (h : ∀ i, out ≤ i → i < xss.length → ga (ga tb i) c = 0) : FP p m xss tb (c + 1) out := by
  obtain ⟨pi, S⟩ := F.st
  have hz : ∀ i, i < xss.length → decide (i < out) = false → p ∣ tf tb i c := fun i hi hu => by
    have : ga (ga tb i) c = 0 := h i (by simpa using hu) hi
    show p ∣ ga (ga tb i) c
    rw [this]; exact Int.dvd_zero p
  refine ⟨F.len, F.row, F.rng, F.le, ⟨pi, S.pass hz⟩, F.same, ?_⟩
  rw [ldc_pass fun x => S.none hp hc hz ((F.same.led c).1 x), F.cnt]
def swp (tb : List (List Int)) (a b : Nat) : List (List Int) := (tb.set a (ga tb b)).set b (ga tb a)
theorem swp_ga {tb : List (List Int)} {a b : Nat} (ha : a < tb.length) (hb : b < tb.length) (j : Nat) : ga (swp tb a b) j = ga tb (if j = a then b else if j = b then a else j) := by
  unfold swp
  rw [U3 _ _ _ _ (by simpa using hb), U3 _ _ _ _ ha]
  by_cases h1 : b = j
  · subst h1
    rw [if_pos rfl]
    by_cases h2 : b = a
    · subst h2; simp
    · rw [if_neg h2, if_pos rfl]
  · rw [if_neg h1]
    by_cases h2 : a = j
    · subst h2; rw [if_pos rfl, if_pos rfl]
    · rw [if_neg h2, if_neg fun x => h2 x.symm, if_neg fun x => h1 x.symm]
theorem swp_len (tb : List (List Int)) (a b : Nat) : (swp tb a b).length = tb.length := by simp [swp]
theorem FP.swap {p : Int} {m : Nat} {xss tb : List (List Int)} {c out : Nat} (F : FP p m xss tb c out) {b : Nat} (h1 : out ≤ b) (h2 : b < xss.length) : FP p m xss (swp tb out b) c out := by
  have hl := F.len
  have hsw : ∀ j, ga (swp tb out b) j = ga tb (if j = out then b else if j = b then out else j) := swp_ga (by omega) (by omega)
  have hlt : ∀ j, j < xss.length → (if j = out then b else if j = b then out else j) < xss.length := fun j hj => by split; omega; split <;> omega
  obtain ⟨pi, S⟩ := F.st
  refine ⟨by rw [swp_len]; exact hl, fun i hi => by rw [hsw]; exact F.row _ (hlt i hi), fun i hi => by rw [hsw]; exact F.rng _ (hlt i hi), F.le, ⟨pi, ?_, ?_⟩, F.same.trans ?_, F.cnt⟩
  · intro i hi hu
    have hio : i < out := by simpa using hu
    obtain ⟨g1, g2, g3⟩ := S.used i hi hu
    have e1 : tf (swp tb out b) i = tf tb i := by funext j; unfold tf; rw [hsw, if_neg (by omega), if_neg (by omega)]
    refine ⟨g1, by rw [e1]; exact g2, fun k hk hne => ?_⟩
    have e2 : tf (swp tb out b) k = tf tb (if k = out then b else if k = b then out else k) := by funext j; unfold tf; rw [hsw]
    rw [e2]
    exact g3 _ (hlt k hk) (by split; omega; split <;> omega)
  · intro i hi hu j hj
    have hio : out ≤ i := by simpa using hu
    have e2 : tf (swp tb out b) i = tf tb (if i = out then b else if i = b then out else i) := by funext j; unfold tf; rw [hsw]
    rw [e2]
    exact S.rest _ (hlt i hi) (by simp; split; omega; split <;> omega) j hj
  · exact same_perm (fun j => if j = out then b else if j = b then out else j) hlt (fun j hj => by
      by_cases g1 : j = out
      · subst g1; rw [if_pos rfl]; by_cases g2 : b = j
        · rw [if_pos g2]; exact g2
        · rw [if_neg g2, if_pos rfl]
      · rw [if_neg g1]; by_cases g2 : j = b
        · rw [if_pos g2, if_pos rfl]; exact g2.symm
        · rw [if_neg g2, if_neg g1, if_neg g2]) fun i hi j hj => by unfold tf; rw [hsw]
theorem FP.hit {p : Int} {m : Nat} {xss tb t2 : List (List Int)} {c out : Nat} {f : Int} (hp0 : 0 < p) (F : FP p m xss tb c out) (hc : c < m) (ho : out < xss.length) (hpv : ga (ga tb out) c ≠ 0)
    (hf : (ga (ga tb out) c * f).tmod p = 1) (hl2 : t2.length = xss.length)
    (h2 : ∀ j, j < xss.length → ga t2 j = if j = out then ga tb j else elR p (elG p f c (ga tb j)) (ga tb out) (ga tb j)) : FP p m xss t2 (c + 1) (out + 1) := by
  obtain ⟨pi, S⟩ := F.st
  have hu : decide (out < out) = false := by simp
  have hndvd : ¬ p ∣ tf tb out c := by
    intro x
    have h1 := F.rng out ho c hc
    obtain ⟨k, hk⟩ := x
    have hk' : ga (ga tb out) c = p * k := hk
    have : k = 0 := by
      by_cases h3 : 0 < k
      · have := Int.mul_le_mul_of_nonneg_left (show 1 ≤ k by omega) (show 0 ≤ p by omega); omega
      · by_cases h4 : k < 0
        · have := Int.mul_le_mul_of_nonneg_left (show k ≤ -1 by omega) (show 0 ≤ p by omega); rw [Int.mul_neg, Int.mul_one] at this; omega
        · omega
    rw [this, Int.mul_zero] at hk'
    exact hpv hk'
  have hLed : Led p m xss.length (tf xss) c := (F.same.led c).2 (S.some ho hu hndvd)
  have e0 : ∀ j, j < m → p ∣ tf t2 out j - tf tb out j := fun j hj => by unfold tf; rw [h2 out ho, if_pos rfl, Int.sub_self]; exact Int.dvd_zero p
  have e1 : ∀ i, i < xss.length → i ≠ out → ∀ j, j < m → p ∣ tf t2 i j - (tf tb i j + (- elG p f c (ga tb i)) * tf tb out j) := fun i hi hne j hj => by
    unfold tf
    rw [h2 i hi, if_neg hne, elR_ga (by rw [F.row i hi]; exact hj)]
    exact (elV_ok hp0 _ _ _).2.2
  have e2 : ∀ i, i < xss.length → i ≠ out → p ∣ tf t2 i c := fun i hi hne => by
    have g1 := e1 i hi hne c hc
    have g2 := tm_dvd p (ga (ga tb i) c * f)
    have g3 := tm_dvd p (ga (ga tb out) c * f)
    rw [hf] at g3
    have g4 : p ∣ ga (ga tb i) c - elG p f c (ga tb i) * ga (ga tb out) c := by
      refine U16 (dvd_mull g2 (ga (ga tb out) c)) (U1l g3 (ga (ga tb i) c)) ?_
      unfold elG
      rw [Int.sub_mul, Int.mul_sub, Int.mul_one, Int.mul_assoc, Int.mul_comm f]; omega
    refine dvd_lin g1 g4 ?_
    show tf t2 i c = tf t2 i c - (ga (ga tb i) c + -elG p f c (ga tb i) * ga (ga tb out) c) + (ga (ga tb i) c - elG p f c (ga tb i) * ga (ga tb out) c)
    rw [Int.neg_mul]; omega
  refine ⟨hl2, fun i hi => ?_, fun i hi j hj => ?_, by omega, ⟨_, S.hit hc ho hu hndvd (fun i => - elG p f c (ga tb i)) e0 e1 e2 fun i hi => ?_⟩, F.same.trans (same_elim ho _ e0 e1), ?_⟩
  · rw [h2 i hi]; split
    · exact F.row i hi
    · rw [elR_len]; exact F.row i hi
  · rw [h2 i hi]; split
    · exact F.rng i hi j hj
    · rw [elR_ga (by rw [F.row i hi]; exact hj)]
      have := elV_ok hp0 (elG p f c (ga tb i)) (ga (ga tb i) j) (ga (ga tb out) j)
      exact ⟨this.1, this.2.1⟩
  · by_cases g : i = out
    · subst g; simp
    · rw [if_neg g, decide_eq_decide]; omega
  · rw [ldc_hit hLed, F.cnt]
theorem FP.done {p : Int} {m : Nat} {xss tb : List (List Int)} {c out : Nat} (hp : Inv p) (F : FP p m xss tb c out) (hc : c ≤ m) (h : out = xss.length ∨ c = m) : out = ldc p m xss.length (tf xss) m := by
  rcases h with h | h
  · obtain ⟨pi, S⟩ := F.st
    have := S.full hp (fun i hi => by simp; omega) (m - c) (by omega)
    rw [show c + (m - c) = m by omega, ← F.same.ldc, ← F.same.ldc, F.cnt] at this
    exact this.symm
  · subst h; exact F.cnt.symm
structure FD (p : Int) (m : Nat) (xss tb : List (List Int)) (us : List Bool) (c fr : Nat) : Prop where
  len : tb.length = xss.length
  ul : us.length = xss.length
  row : ∀ i, i < xss.length → (ga tb i).length = m
  bnd : ∀ i, i < xss.length → ∀ j, j < m → -100 ≤ ga (ga tb i) j ∧ ga (ga tb i) j ≤ 100
  st : ∃ pi, St p m xss.length (tf tb) (fun i => ga us i) pi c
  same : Same p m xss.length (tf xss) (tf tb)
  cnt : fr + ldc p m xss.length (tf xss) c = m
theorem FD.start {p : Int} {m : Nat} {xss : List (List Int)} {us : List Bool} (hu : us = List.replicate xss.length false) (h1 : ∀ i, i < xss.length → (ga xss i).length = m) (h2 : ∀ i, i < xss.length → ∀ j, j < m → -100 ≤ ga (ga xss i) j ∧ ga (ga xss i) j ≤ 100) : FD p m xss xss us 0 m :=
  ⟨rfl, by rw [hu]; simp, h1, h2, ⟨fun _ => 0, St.start p m _ _ (fun i hi => by rw [hu, U24 _ _ _ hi]) _⟩, Same.refl p m _ _, by show m + 0 = m; rfl⟩
theorem FD.pass {p : Int} {m : Nat} {xss tb : List (List Int)} {us : List Bool} {c fr : Nat} (hp : Inv p) (F : FD p m xss tb us c fr) (hc : c < m) (h : ∀ i, i < xss.length → ga us i = false → (ga (ga tb i) c).tmod p = 0) : FD p m xss tb us (c + 1) fr := by
  obtain ⟨pi, S⟩ := F.st
  have hz : ∀ i, i < xss.length → ga us i = false → p ∣ tf tb i c := fun i hi hu => tm_zero.1 (h i hi hu)
  refine ⟨F.len, F.ul, F.row, F.bnd, ⟨pi, S.pass hz⟩, F.same, ?_⟩
  rw [ldc_pass fun x => S.none hp hc hz ((F.same.led c).1 x), F.cnt]
theorem FD.hit {p : Int} {m : Nat} {xss tb t2 : List (List Int)} {us : List Bool} {c fr o : Nat} (F : FD p m xss tb us c fr) (hc : c < m) (ho : o < xss.length) (hu : ga us o = false) (hpv : (ga (ga tb o) c).tmod p ≠ 0)
    (hl2 : t2.length = xss.length) (hr2 : ∀ i, i < xss.length → (ga t2 i).length = m) (hb2 : ∀ i, i < xss.length → ∀ j, j < m → -100 ≤ ga (ga t2 i) j ∧ ga (ga t2 i) j ≤ 100) (h0 : ga t2 o = ga tb o)
    (h2 : ∀ i, i < xss.length → i ≠ o → p ∣ ga (ga t2 i) c ∧ ∃ g : Nat, ∀ j, j < m → p ∣ ga (ga t2 i) j - (ga (ga tb i) j + (g : Int) * ga (ga tb o) j)) :
    1 ≤ fr ∧ FD p m xss t2 (us.set o true) (c + 1) (fr - 1) := by
  obtain ⟨pi, S⟩ := F.st
  have hndvd : ¬ p ∣ tf tb o c := fun x => hpv (tm_zero.2 x)
  have hLed : Led p m xss.length (tf xss) c := (F.same.led c).2 (S.some ho hu hndvd)
  have hl := ldc_hit hLed
  have hle := ldc_le p m xss.length (tf xss) c
  have hcn := F.cnt
  have hfr : 1 ≤ fr := by omega
  let g : Nat → Int := fun i => if h : i < xss.length ∧ i ≠ o then (((h2 i h.1 h.2).2.choose : Nat) : Int) else 0
  have e0 : ∀ j, j < m → p ∣ tf t2 o j - tf tb o j := fun j hj => by unfold tf; rw [h0, Int.sub_self]; exact Int.dvd_zero p
  have e1 : ∀ i, i < xss.length → i ≠ o → ∀ j, j < m → p ∣ tf t2 i j - (tf tb i j + g i * tf tb o j) := fun i hi hne j hj => by
    have h3 : i < xss.length ∧ i ≠ o := ⟨hi, hne⟩
    have e : g i = (((h2 i hi hne).2.choose : Nat) : Int) := by show (if h : _ then _ else _) = _; rw [dif_pos h3]
    rw [e]
    exact (h2 i hi hne).2.choose_spec j hj
  have e2 : ∀ i, i < xss.length → i ≠ o → p ∣ tf t2 i c := fun i hi hne => (h2 i hi hne).1
  have hul := F.ul
  refine ⟨hfr, hl2, by simpa using hul, hr2, hb2, ⟨_, S.hit hc ho hu hndvd g e0 e1 e2 fun i hi => ?_⟩, F.same.trans (same_elim ho _ e0 e1), ?_⟩
  · rw [U3 _ _ _ _ (by omega)]
    by_cases e : i = o
    · subst e; simp
    · rw [if_neg e, if_neg fun x => e x.symm]
  · rw [hl]; omega
theorem times_ex {p : Nat} (hp : U2a p = true) (h97 : p ≤ 97) (x y : Int) (hy : ¬ (p : Int) ∣ y) : ∃ N : Nat, (p : Int) ∣ x + (N : Int) * y ∧ ∀ k : Nat, k < N → ¬ (p : Int) ∣ x + (k : Int) * y := by
  have hex : ∃ N : Nat, (p : Int) ∣ x + (N : Int) * y := by
    obtain ⟨z, hz⟩ := prime_inv hp h97 y hy
    have h2 : 2 ≤ p := by unfold U2a at hp; simp at hp; exact hp.1
    refine ⟨((-x * z) % (p : Int)).toNat, ?_⟩
    rw [Int.toNat_of_nonneg (Int.emod_nonneg _ (by omega))]
    have h3 : ((p : Int)) ∣ -x * z - (-x * z) % (p : Int) := Int.dvd_self_sub_emod
    refine U16 (U1l hz (-x)) (dvd_mull h3 y) ?_
    have e : -x * (y * z) = -x * z * y := by rw [Int.mul_assoc, Int.mul_comm z y]
    rw [Int.mul_sub, Int.mul_one, Int.sub_mul, e]; omega
  obtain ⟨N0, h0⟩ := hex
  induction N0 using Nat.strongRecOn with
  | ind N ih =>
    by_cases h : ∃ k, k < N ∧ (p : Int) ∣ x + (k : Int) * y
    · obtain ⟨k, hk, hd⟩ := h; exact ih k hk hd
    · exact ⟨N, h0, fun k hk hd => h ⟨k, hk, hd⟩⟩
theorem both {p : Int} {m : Nat} {xs ys : List (List Int)} (hl : ys.length = xs.length) (h : ∀ i, i < xs.length → ∀ j, j < m → p ∣ ga (ga ys i) j - ga (ga xs i) j) : ldc p m ys.length (tf ys) m = ldc p m xs.length (tf xs) m := by
  rw [hl]
  exact ((same_cong (T := tf xs) (T' := tf ys) h).ldc m).symm
end Fx
end Go.Proofs.Ytkcighnochjlgaa
namespace Go.Proofs.Ytkcighnochjlgaa
open Go.RowKit
def U1t (p : Int) : Bool := decide (2 ≤ p ∧ p ≤ 97) && Fx.U2a p.toNat
theorem primB_out {p : Int} (h : p < 2 ∨ 97 < p) : U1t p = false := by
  unfold U1t; rw [decide_eq_false (by omega)]; rfl
theorem emod_nat (a b : Nat) : (a : Int) % (b : Int) = ((a % b : Nat) : Int) := by simp
theorem tmod_nat (a b : Nat) : (a : Int).tmod (b : Int) = ((a % b : Nat) : Int) := by
  rw [Int.tmod_eq_emod_of_nonneg (by omega)]; simp
theorem primeN_no {p x : Nat} (h : 2 ≤ x) (hx : x < p) (hd : p % x = 0) : Fx.U2a p = false := by
  unfold Fx.U2a
  rw [Bool.and_eq_false_iff]
  refine .inr ?_
  rw [List.all_eq_false]
  refine ⟨x, by simpa using hx, ?_⟩
  rw [decide_eq_false (by omega), decide_eq_false (by simpa using hd)]
  simp
theorem primeN_yes {p : Nat} (h2 : 2 ≤ p) (h : ∀ x, 2 ≤ x → x < p → p % x ≠ 0) : Fx.U2a p = true := by
  unfold Fx.U2a
  rw [decide_eq_true h2, Bool.true_and, List.all_eq_true]
  intro x hx
  have hx : x < p := by simpa using hx
  by_cases g : x < 2
  · simp [g]
  · simp [h x (by omega) hx]
theorem prim_hit {p : Int} {k : Nat} (h2 : 2 ≤ k) (hk : wr ((k : Int) * k) ≤ p) (hkp : (k : Int) ≤ p) (hd : p % (k : Int) = 0) : U1t p = false := by
  by_cases h : p < 2 ∨ 97 < p
  · exact primB_out h
  · have hk97 : k ≤ 97 := by omega
    have hkk : (k : Int) * k ≤ p := by
      have h1 : k * k ≤ 97 * 97 := Nat.mul_le_mul hk97 hk97
      have h3 : ((k * k : Nat) : Int) = (k : Int) * k := by simp
      rw [wr_id (by omega)] at hk; exact hk
    have hlt : k < p.toNat := by
      have h1 : 2 * k ≤ k * k := Nat.mul_le_mul_right k h2
      have h3 : ((k * k : Nat) : Int) = (k : Int) * k := by simp
      omega
    unfold U1t
    rw [primeN_no h2 hlt (by
      have e : ((p.toNat : Nat) : Int) = p := Int.toNat_of_nonneg (by omega)
      rw [← e, emod_nat] at hd; exact_mod_cast hd), Bool.and_false]
theorem prim_end {p : Int} {k : Nat} (h2 : 2 ≤ k) (hk : ¬ wr ((k : Int) * k) ≤ p) (hkp : (k : Int) ≤ p ∨ k = 2) (hd : ∀ x : Nat, 2 ≤ x → x < k → p % (x : Int) ≠ 0) : U1t p = decide (2 ≤ p ∧ p ≤ 97) := by
  by_cases h : p < 2 ∨ 97 < p
  · rw [primB_out h, decide_eq_false (by omega)]
  · rw [decide_eq_true (by omega)]
    unfold U1t
    rw [decide_eq_true (by omega), Bool.true_and]
    have e : ((p.toNat : Nat) : Int) = p := Int.toNat_of_nonneg (by omega)
    have hk97 : k ≤ 97 := by omega
    have hkk : p.toNat < k * k := by
      have h1 : k * k ≤ 97 * 97 := Nat.mul_le_mul hk97 hk97
      have h3 : ((k * k : Nat) : Int) = (k : Int) * k := by simp
      rw [wr_id (by omega)] at hk; omega
    have hno : ∀ x : Nat, 2 ≤ x → x < k → p.toNat % x ≠ 0 := fun x hx hxk h0 => hd x hx hxk (by rw [← e, emod_nat, h0]; rfl)
    refine primeN_yes (by omega) fun x hx hxp h0 => ?_
    by_cases hxk : x < k
    · exact hno x hx hxk h0
    · obtain ⟨y, hy⟩ := Nat.dvd_of_mod_eq_zero h0
      have hy2 : 2 ≤ y := by
        rcases y with _ | _ | y
        · omega
        · omega
        · omega
      have hyk : y < k := by
        refine Nat.lt_of_not_le fun hle => ?_
        have : k * k ≤ x * y := Nat.mul_le_mul (by omega) hle
        omega
      refine hno y hy2 hyk ?_
      rw [hy]; exact Nat.mul_mod_left x y
theorem primD_hit {p : Int} {k : Nat} (h97 : p ≤ 97) (h2 : 2 ≤ k) (hk : (k : Int) < p) (hd : p % (k : Int) = 0) : U1t p = false := by
  unfold U1t
  have e : ((p.toNat : Nat) : Int) = p := Int.toNat_of_nonneg (by omega)
  rw [primeN_no (x := k) h2 (by omega) (by rw [← e, emod_nat] at hd; exact_mod_cast hd), Bool.and_false]
theorem primD_end {p : Int} {k : Nat} (h97 : 2 ≤ p ∧ p ≤ 97) (hk : p ≤ (k : Int)) (hd : ∀ x : Nat, 2 ≤ x → x < k → p % (x : Int) ≠ 0) : U1t p = true := by
  unfold U1t
  rw [decide_eq_true h97, Bool.true_and]
  have e : ((p.toNat : Nat) : Int) = p := Int.toNat_of_nonneg (by omega)
  exact primeN_yes (by omega) fun x hx hxp h0 => hd x hx (by omega) (by rw [← e, emod_nat, h0]; rfl)
def invI (a p : Int) : Int := match (List.range p.toNat).find? fun (k : Nat) => (a * (k : Int)).tmod p == 1 with
  | some k => (k : Int)
  | none => 0
theorem inv_hit {a p : Int} {k : Nat} (hk : (k : Int) < p) (h : (a * (k : Int)).tmod p = 1) (h0 : ∀ j : Nat, j < k → (a * (j : Int)).tmod p ≠ 1) : invI a p = k := by
  unfold invI
  have : (List.range p.toNat).find? (fun (k : Nat) => (a * (k : Int)).tmod p == 1) = some k := by
    rw [List.find?_range_eq_some]
    exact ⟨by simpa using h, by simp; omega, fun j hj => by simpa using h0 j hj⟩
  rw [this]
theorem inv_none {a p : Int} (h0 : ∀ j : Nat, (j : Int) < p → (a * (j : Int)).tmod p ≠ 1) : invI a p = 0 := by
  unfold invI
  have : (List.range p.toNat).find? (fun (k : Nat) => (a * (k : Int)).tmod p == 1) = none := by
    rw [List.find?_eq_none]
    intro x hx
    have hx : x < p.toNat := by simpa using hx
    simpa using h0 x (by omega)
  rw [this]
theorem inv_bd {a p : Int} (hp : 0 < p) : 0 ≤ invI a p ∧ invI a p < p := by
  unfold invI
  cases h : (List.range p.toNat).find? fun (k : Nat) => (a * (k : Int)).tmod p == 1 with
  | none => exact ⟨Int.le_refl 0, hp⟩
  | some k =>
    have := List.mem_of_find?_eq_some h
    have hk : k < p.toNat := by simpa using this
    simp only []; omega
theorem inv_ok {p : Int} (hp : U1t p = true) {a : Int} (h0 : 0 ≤ a) (h1 : a < p) (hne : a ≠ 0) : (a * invI a p).tmod p = 1 := by
  unfold U1t at hp
  rw [Bool.and_eq_true, decide_eq_true_iff] at hp
  obtain ⟨k, hk, e⟩ := Fx.inv_ex hp.2 (by omega) (a := a.toNat) (by omega) (by omega)
  have ep : ((p.toNat : Nat) : Int) = p := Int.toNat_of_nonneg (by omega)
  have ea : ((a.toNat : Nat) : Int) = a := Int.toNat_of_nonneg h0
  have hx : (a * (k : Int)).tmod p = 1 := by
    rw [← ep, ← ea, ← Int.natCast_mul, tmod_nat, e]; rfl
  unfold invI
  cases h : (List.range p.toNat).find? fun (k : Nat) => (a * (k : Int)).tmod p == 1 with
  | none =>
    rw [List.find?_eq_none] at h
    have := h k (by simpa using hk)
    simp [hx] at this
  | some j =>
    have := List.find?_some h
    simpa using this
theorem U1s {p : Int} (hp : U1t p = true) : Fx.Inv p ∧ 2 ≤ p ∧ p ≤ 97 := by
  unfold U1t at hp
  rw [Bool.and_eq_true, decide_eq_true_iff] at hp
  have ep : ((p.toNat : Nat) : Int) = p := Int.toNat_of_nonneg (by omega)
  exact ⟨ep ▸ Fx.prime_inv hp.2 (by omega), hp.1⟩
end Go.Proofs.Ytkcighnochjlgaa
namespace Go.Proofs.Ytkcighnochjlgaa
open Go.ChangeShapes Go.WideShapes Go.ChangeAt Go.RowKit
noncomputable def Z5 := Try.f81.body.getD .skip
set_option maxRecDepth 10000 in
theorem isPrime_q {w : World} {M : Hp} {X : Fr} (p : Int) (hp : p ≤ 9223372036854775807) (S : SH w M X []) : Cq Try.prog 81 [.int .i64 p] w M X (fun u => u = .bool (U1t p)) := by
 unfold Cq
 refine U7 (b := Z5) Try.func81 rfl Try.ntmps81 rfl (fun C hC => (zzwsk [0] rfl (zzsR (zzmv 1 rfl (zzeS [0] rfl (zzsR (zzmv 1 rfl (zzeE (U6 ?_)))))))))
 refine zzbK ?_
 refine U4 (fun mx_ ax_ wx_ => ∃ (k : Nat), mx_ = p.toNat - k ∧ Env 21 [(0, .int .i64 p), (3, .int .i64 (k : Int))] ax_ ∧ SH wx_ M X [] ∧ 2 ≤ k ∧ ((k : Int) ≤ p ∨ k = 2) ∧ (∀ x : Nat, 2 ≤ x → x < k → p % (x : Int) ≠ 0)) rfl ?_ ?_
 ·intro ax_ hax_
  refine ⟨_, ⟨2, rfl, hax_.su rfl, S.pick [] [] (by decide) trivial, ?hq1f0, ?hq1f1, ?hq1f2⟩⟩
  case hq1f0 => omega
  case hq1f1 => (right; rfl)
  case hq1f2 => (intro x h1 h2; omega)
 ·rintro m1 a1 w1 ⟨k, rfl, he1, S1, hk, hkp, hno⟩
  clear S
  refine zziN he1 ?_
  clear he1 a1
  refine zzsS (zzsR (zzmv 2 rfl (zzwr rfl (run_mulW rfl rfl rfl) (zzmv 2 rfl (zzeT [0, 3, 8] rfl ?_)))))
  refine zzcD rfl (fun hb8 => ?_) (fun hb8 => ?_)
  ·have hkp2 : (k : Int) ≤ p := by (rcases hkp with h | h; exact h; (subst h; have h4 : wr (((2 : Nat) : Int) * ((2 : Nat) : Int)) = 4 := rfl; omega))
   refine zzsK (zznS [0, 3] rfl (zzbK (zzsR (zzmv 2 rfl (zzwr rfl (run_rem rfl rfl rfl (by first | omega | (simp only [ls]; omega))) ?_)))))
   refine zzmv 1 rfl (zzeT [0, 3, 14] rfl ?_)
   refine zzcD rfl (fun hb14 => ?_) (fun hb14 => ?_)
   ·refine zzsR (zzmv 1 rfl (zzeT [2] rfl (zzrT hC rfl ?_)))
    exact ⟨_, rfl, (S1.pick [] [] (by decide) trivial), (by rw [prim_hit hk hb8 hkp2 hb14]; rfl)⟩
   ·have hkne : (k : Int) ≠ p := by (intro e; apply hb14; rw [e]; exact Int.emod_self)
    have hklt : (k : Int) < p := by omega
    refine zzsK (U8 (zznT [0, 3] rfl (zzrG (zzmv 1 rfl (zzwr rfl (U1 rfl) (zzmv 1 rfl (zzeE (Uf ?_))))))))
    intro ax_ hax_
    refine ⟨_, ?hq2m, ⟨k + 1, rfl, hax_.su rfl, S1.pick [] [] (by decide) trivial, ?hq2f0, ?hq2f1, ?hq2f2⟩⟩
    case hq2f0 => omega
    case hq2f1 => (left; omega)
    case hq2f2 => (intro x h1 h2; by_cases e : x = k; (subst e; exact hb14); exact hno x h1 (by omega))
    case hq2m => omega
  ·refine zzxE rfl (zznR [0] rfl (zzmv 3 rfl ?_))
   refine Um (t := 17) rfl (fun hg17 => ?_) (fun hg17 => ?_)
   ·refine zzmv 4 rfl (zzeT [2] rfl (zzrT hC rfl ?_))
    exact ⟨_, rfl, (S1.pick [] [] (by decide) trivial), (by rw [prim_end hk hb8 hkp hno]; refine congrArg Value.bool ?_; first | (rw [decide_eq_decide]; omega) | exact (decide_eq_false (by omega)).symm)⟩
   ·refine zzmv 4 rfl (zzeT [2] rfl (zzrT hC rfl ?_))
    exact ⟨_, rfl, (S1.pick [] [] (by decide) trivial), (by rw [prim_end hk hb8 hkp hno]; refine congrArg Value.bool ?_; first | (rw [decide_eq_decide]; omega) | exact (decide_eq_false (by omega)).symm)⟩
noncomputable def Z6 := Try.f41.body.getD .skip
set_option maxRecDepth 10000 in
theorem Prime_q {w : World} {M : Hp} {X : Fr} (p : Int) (hp : 2 ≤ p ∧ p ≤ 97) (S : SH w M X []) : Cq Try.prog 41 [.int .i64 p] w M X (fun u => u = .bool (U1t p)) := by
 unfold Cq
 refine U7 (b := Z6) Try.func41 rfl Try.ntmps41 rfl (fun C hC => (zzwsk [0] rfl (zzsR (zzmv 1 rfl (zzeS [0] rfl (zzsR (zzmv 1 rfl (zzeE (U6 ?_)))))))))
 refine zzbK ?_
 refine U4 (fun mx_ ax_ wx_ => ∃ (k : Nat), mx_ = p.toNat - k ∧ Env 15 [(0, .int .i64 p), (3, .int .i64 (k : Int))] ax_ ∧ SH wx_ M X [] ∧ 2 ≤ k ∧ (∀ x : Nat, 2 ≤ x → x < k → p % (x : Int) ≠ 0)) rfl ?_ ?_
 ·intro ax_ hax_
  refine ⟨_, ⟨2, rfl, hax_.su rfl, S.pick [] [] (by decide) trivial, ?hq1f0, ?hq1f1⟩⟩
  case hq1f0 => omega
  case hq1f1 => (intro x h1 h2; omega)
 ·rintro m1 a1 w1 ⟨k, rfl, he1, S1, hk, hno⟩
  clear S
  refine zziN he1 ?_
  clear he1 a1
  refine zzsS (zzsR (zzmv 3 rfl (zzeT [0, 3, 6] rfl ?_)))
  refine zzcD rfl (fun hb6 => ?_) (fun hb6 => ?_)
  ·refine zzsK (zznS [0, 3] rfl (zzbK (zzsR (zzmv 2 rfl (zzwr rfl (run_rem rfl rfl rfl (by first | omega | (simp only [ls]; omega))) ?_)))))
   refine zzmv 1 rfl (zzeT [0, 3, 12] rfl ?_)
   refine zzcD rfl (fun hb12 => ?_) (fun hb12 => ?_)
   ·refine zzsR (zzmv 1 rfl (zzeT [2] rfl (zzrT hC rfl ?_)))
    exact ⟨_, rfl, (S1.pick [] [] (by decide) trivial), (by rw [primD_hit hp.2 hk hb6 hb12]; rfl)⟩
   ·refine zzsK (U8 (zznT [0, 3] rfl (zzrG (zzmv 1 rfl (zzwr rfl (U1 rfl) (zzmv 1 rfl (zzeE (Uf ?_))))))))
    intro ax_ hax_
    refine ⟨_, ?hq2m, ⟨k + 1, rfl, hax_.su rfl, S1.pick [] [] (by decide) trivial, ?hq2f0, ?hq2f1⟩⟩
    case hq2f0 => omega
    case hq2f1 => (intro x h1 h2; by_cases e : x = k; (subst e; exact hb12); exact hno x h1 (by omega))
    case hq2m => omega
  ·refine zzxE rfl (zznR [0] rfl (zzmv 3 rfl (zzeT [2] rfl (zzrT hC rfl ?_))))
   exact ⟨_, rfl, (S1.pick [] [] (by decide) trivial), (by rw [primD_end hp (by omega) hno]; first | rfl | (rw [decide_eq_true (by omega)]; rfl))⟩
theorem mulbd {a k : Int} (ha : 0 ≤ a ∧ a ≤ 97) (hk : 0 ≤ k ∧ k ≤ 97) : 0 ≤ a * k ∧ a * k ≤ 10000 := by
 refine ⟨Int.mul_nonneg ha.1 hk.1, ?_⟩
 have := Int.mul_le_mul ha.2 hk.2 hk.1 (by omega)
 omega
noncomputable def Z7 := Try.f119.body.getD .skip
set_option maxRecDepth 10000 in
theorem inverse_q {w : World} {M : Hp} {X : Fr} (a : Int) (p : Int) (ha : 0 ≤ a ∧ a ≤ 97) (hp : 2 ≤ p ∧ p ≤ 97) (S : SH w M X []) : Cq Try.prog 119 [.int .i64 a, .int .i64 p] w M X (fun u => u = .int .i64 (invI a p)) := by
 unfold Cq
 refine U7 (b := Z7) Try.func119 rfl Try.ntmps119 rfl (fun C hC => (zzwsk [0, 1] rfl (zzsR (zzmv 1 rfl (zzeS [0, 1] rfl (zzsR (zzmv 2 rfl (zzeE (U6 ?_)))))))))
 refine zzbK ?_
 refine U4 (fun mx_ ax_ wx_ => ∃ (k : Nat), mx_ = p.toNat - k ∧ Env 18 [(0, .int .i64 a), (1, .int .i64 p), (6, .int .i64 p), (7, .int .i64 (k : Int))] ax_ ∧ SH wx_ M X [] ∧ (k : Int) ≤ p ∧ (∀ x : Nat, x < k → (a * (x : Int)).tmod p ≠ 1)) rfl ?_ ?_
 ·intro ax_ hax_
  refine ⟨_, ⟨0, rfl, hax_.su rfl, S.pick [] [] (by decide) trivial, ?hq1f0, ?hq1f1⟩⟩
  case hq1f0 => omega
  case hq1f1 => (intro x h; omega)
 ·rintro m1 a1 w1 ⟨k, rfl, he1, S1, hk, hno⟩
  clear S
  refine zziN he1 ?_
  clear he1 a1
  have hmk := fun h => mulbd (k := (k : Int)) ha h
  refine zzsR (zzmv 1 rfl (zzeE (zztS ?_)))
  refine zzcD rfl (fun hb8 => ?_) (fun hb8 => ?_)
  ·refine zzsK (zznS [0, 1, 6, 7] rfl (zzbK (zzsR (zzmv 2 rfl (zzeS [0, 1, 6, 7, 5] rfl ?_)))))
   have hmk2 := hmk (by omega)
   obtain ⟨hmk3, hmk4⟩ := hmk2
   refine zzrG (zzmv 2 rfl (zzwr rfl (run_mul rfl rfl rfl (by first | omega | (simp only [ls]; omega))) ?_))
   refine zzmv 1 rfl (zzwr rfl (run_rem rfl rfl rfl (by first | omega | (simp only [ls]; omega))) ?_)
   refine zzmv 1 rfl (zzeT [0, 1, 6, 7, 5, 15] rfl ?_)
   refine zzcD rfl (fun hb15 => ?_) (fun hb15 => ?_)
   ·refine zzsR (zzmv 2 rfl (zzeT [4] rfl (zzrT hC rfl ?_)))
    exact ⟨_, rfl, (S1.pick [] [] (by decide) trivial), (by rw [inv_hit (by omega) (by rw [Int.tmod_eq_emod_of_nonneg hmk3]; exact hb15) hno]; rfl)⟩
   ·refine zzsK (U8 (zznT [0, 1, 6, 7] rfl (zzrG (zzwr rfl (U1 rfl) (zzmv 1 rfl (zzeE (Uf ?_)))))))
    intro ax_ hax_
    refine ⟨_, ?hq2m, ⟨k + 1, rfl, hax_.su rfl, S1.pick [] [] (by decide) trivial, ?hq2f0, ?hq2f1⟩⟩
    case hq2f0 => omega
    case hq2f1 => (intro x h; by_cases e : x = k; (subst e; rw [Int.tmod_eq_emod_of_nonneg hmk3]; exact hb15); exact hno x (by omega))
    case hq2m => omega
  ·refine zzxE rfl (zznR [] rfl (zzmv 1 rfl (zzeE (U6 (zzrT hC rfl ?_)))))
   exact ⟨_, rfl, (S1.pick [] [] (by decide) trivial), (by rw [inv_none (fun j hj => hno j (by omega))]; rfl)⟩
end Go.Proofs.Ytkcighnochjlgaa
namespace Go.Proofs.Ytkcighnochjlgaa
open Go.ChangeShapes Go.WideShapes Go.ChangeAt Go.RowKit
section
variable {α : Type} {C : Cd α} {N N' : Hp} {vs vs' : List SlV} {xss yss : List (List α)}
theorem ga_drop {β : Type} [Inhabited β] (xs : List β) (k i : Nat) : ga (xs.drop k) i = ga xs (k + i) := by
  unfold ga; simp [List.getD_eq_getElem?_getD]
theorem Rd2.drop_ (h : Rd2 C N vs xss) (k : Nat) : Rd2 C N (vs.drop k) (xss.drop k) := ⟨by rw [List.length_drop, List.length_drop, h.1], fun i hi => by
  rw [List.length_drop] at hi
  have := h.2 (k + i) (by omega)
  rw [ga_drop, ga_drop]
  exact this⟩
def RdD (C : Cd α) (N : Hp) (svs : List (List SlV)) (mm : List (List (List α))) : Prop := svs.length = mm.length ∧ ∀ i, i < svs.length → Rd2 C N (ga svs i) (ga mm i)
variable {svs : List (List SlV)} {mm : List (List (List α))}
theorem RdD.nil_ : RdD C N [] [] := ⟨rfl, fun i hi => by simp at hi⟩
end
section
variable {P : Program} {o : Oper} {L : List (Nat × Value)} {w : World} {x hx : Operand} {t tn T : TypeId} {n d : Nat} {Kt : List (Nat × Value) → World → Prop} {M : Hp} {X : Fr} {H : List Rs}
end
end Go.Proofs.Ytkcighnochjlgaa
namespace Go.Proofs.Ytkcighnochjlgaa
open Go.ChangeShapes Go.WideShapes Go.ChangeAt Go.RowKit
def apartL (H : List Rs) : Prop := H.Pairwise fun r s => ∀ b ∈ r.bl, b ∉ s.bl
theorem U2f {H : List Rs} : apartL H ↔ ∀ (i j : Nat) r s, i ≠ j → H[i]? = some r → H[j]? = some s → ∀ b ∈ r.bl, b ∉ s.bl := by
  unfold apartL
  rw [List.pairwise_iff_getElem]
  constructor
  · intro h i j r s hij hi hj b hb hbs
    obtain ⟨i1, e1⟩ := List.getElem?_eq_some_iff.1 hi
    obtain ⟨j1, e2⟩ := List.getElem?_eq_some_iff.1 hj
    rcases Nat.lt_or_ge i j with h1 | h1
    · exact h i j i1 j1 h1 b (by rw [e1]; exact hb) (by rw [e2]; exact hbs)
    · exact h j i j1 i1 (by omega) b (by rw [e2]; exact hbs) (by rw [e1]; exact hb)
  · intro h i j hi hj hij
    exact h i j _ _ (by omega) (List.getElem?_eq_getElem hi) (List.getElem?_eq_getElem hj)
section
variable {w : World} {M : Hp} {X : Fr} {A B H H' : List Rs}
theorem SH.bunC (S : SH w M X (A ++ B)) : SH w M X (Rs.bun A :: B) := by
  have hap := U2f.2 S.ap
  obtain ⟨h1, h2, h3⟩ := List.pairwise_append.1 hap
  refine ⟨S.m, S.x, S.mx, fun r hr => ?_, fun r hr b hb => ?_, U2f.1 (List.pairwise_cons.2 ⟨fun s hs b hb => ?_, h2⟩), S.like⟩
  · rcases List.mem_cons.1 hr with rfl | hr
    · exact ⟨fun r hr => S.ok r (by simp [hr]), U2f.1 h1⟩
    · exact S.ok r (by simp [hr])
  · rcases List.mem_cons.1 hr with rfl | hr
    · obtain ⟨q, hq, hb⟩ := List.mem_flatMap.1 hb
      exact S.bl q (by simp [hq]) b hb
    · exact S.bl r (by simp [hr]) b hb
  · obtain ⟨q, hq, hb⟩ := List.mem_flatMap.1 hb
    exact h3 q hq s hs b hb
theorem SH.unbunC (S : SH w M X (Rs.bun A :: B)) : SH w M X (A ++ B) := by
  obtain ⟨hok, hap⟩ := S.ok (Rs.bun A) (by simp)
  obtain ⟨h1, h2⟩ := List.pairwise_cons.1 (U2f.2 S.ap)
  refine ⟨S.m, S.x, S.mx, fun r hr => ?_, fun r hr b hb => ?_, U2f.1 (List.pairwise_append.2 ⟨U2f.2 hap, h2, fun r hr s hs b hb => h1 s hs b (List.mem_flatMap.2 ⟨r, hr, hb⟩)⟩), S.like⟩
  · rcases List.mem_append.1 hr with hr | hr
    · exact hok r hr
    · exact S.ok r (by simp [hr])
  · rcases List.mem_append.1 hr with hr | hr
    · exact S.bl (Rs.bun A) (by simp) b (List.mem_flatMap.2 ⟨r, hr, hb⟩)
    · exact S.bl r (by simp [hr]) b hb
end
namespace InF
section
variable {P : Program} {n : Nat} {C : Ctx} {c : Code} {s : List K} {L : List (Nat × Value)} {w : World} {M : Hp} {X : Fr} {H : List Rs}
end
end InF
end Go.Proofs.Ytkcighnochjlgaa
namespace Go.Proofs.Ytkcighnochjlgaa
open Go.ChangeShapes Go.WideShapes Go.ChangeAt Go.RowKit
section
variable {P : Program} {o : Oper} {L : List (Nat × Value)} {w : World} {n d : Nat} {Kt : List (Nat × Value) → World → Prop} {M : Hp} {X : Fr} {H : List Rs} {i : Nat} {r : Rs}
theorem SH.less (S : SH w M X H) (hi : nth H i = some r) : SH w M X (H.set i Rs.emp) := S.step hi rfl (Like.refl w) (fun _ _ _ => rfl) trivial (fun b hb => by cases hb)
end
end Go.Proofs.Ytkcighnochjlgaa
namespace Go.Proofs.Ytkcighnochjlgaa
open Go.ChangeShapes Go.WideShapes Go.ChangeAt Go.RowKit
section
variable {P : Program} {o : Oper} {L : List (Nat × Value)} {w w' : World} {x y z : Operand} {t t' T E : TypeId} {a b : Int} {v u : Value} {n d : Nat} {Kt : List (Nat × Value) → World → Prop} {M M' : Hp} {X : Fr} {H H' : List Rs} {i g : Nat} {l : List Value}
def alv (v : Value) (lo n : Nat) : Value := match v with
  | .slice A _ c => .slice (if c = lo then A else A.map (·.add lo)) n (c - lo)
  | u => u
end
end Go.Proofs.Ytkcighnochjlgaa
namespace Go.Proofs.Ytkcighnochjlgaa
open Go.ChangeShapes Go.WideShapes Go.ChangeAt Go.RowKit
section
variable {α : Type} {C : Cd α} {w : World} {M : Hp} {X : Fr} {H H' : List Rs} {i k : Nat} {vs : List SlV} {xss : List (List α)}
end
section
variable {P : Program} {o : Oper} {L : List (Nat × Value)} {w : World} {x y : Operand} {t T : TypeId} {a : Int} {M : Hp} {X : Fr} {H : List Rs} {i lo n d : Nat} {Kt : List (Nat × Value) → World → Prop}
theorem run_aliasDG {α : Type} {C : Cd α} {xs : List α} {rv : Value} {lx : Operand} (k : Nat) (hk1 : C.k = 1) (hop : o.op = .slice T x (some lx) none none) (hxx : oev L x = some rv) (hlo : oev L lx = some (.int .i64 a)) (hT : SlOf P T C) (hv : ∃ A c, rv = .slice A xs.length c ∧ xs.length ≤ c) (ha : a = (k : Int)) (hk : k ≤ xs.length) : Run P o L w (alv rv k (xs.length - k)) w := by
  obtain ⟨zv, h1, h2, h3, h4, h5⟩ := hT
  obtain ⟨inf, hinf, hz, hs, h8⟩ := info_parts h2
  subst ha
  obtain ⟨A, c, rfl, hc⟩ := hv
  have := run_sliceI (P := P) (w := w) (lo := k) (hi := xs.length) hop hxx (lv := some (.int .i64 (k : Int))) (hv := none) (size := C.k) (by simpa using hlo) rfl h1 (by rw [hinf]; simp [hs]) (.inr rfl) (.inl ⟨rfl, rfl⟩) hk hc
  rw [hk1, Nat.mul_one] at this
  exact this
end
end Go.Proofs.Ytkcighnochjlgaa
namespace Go.Proofs.Ytkcighnochjlgaa
open Go.ChangeShapes Go.WideShapes Go.ChangeAt Go.RowKit
section
variable {α : Type} {C : Cd α} {w : World} {M N : Hp} {X : Fr} {H H' : List Rs} {i k : Nat} {vs : List SlV} {xss : List (List α)}
def swN (a b j : Nat) : Nat := if j = a then b else if j = b then a else j
theorem swN_lt {a b n : Nat} (ha : a < n) (hb : b < n) {j : Nat} (hj : j < n) : swN a b j < n := by unfold swN; split; exact hb; split <;> omega
theorem swN_inj {a b i j : Nat} (h : i ≠ j) : swN a b i ≠ swN a b j := by
  intro e
  have hs : ∀ k, (swN a b k = b ∧ k = a) ∨ (swN a b k = a ∧ k = b ∧ k ≠ a) ∨ (swN a b k = k ∧ k ≠ a ∧ k ≠ b) := fun k => by
    unfold swN; split
    · exact .inl ⟨rfl, by assumption⟩
    · split
      · exact .inr (.inl ⟨rfl, by assumption, by assumption⟩)
      · exact .inr (.inr ⟨rfl, by assumption, by assumption⟩)
  have h1 := hs i
  have h2 := hs j
  omega
theorem ga_sw {β : Type} [Inhabited β] {xs : List β} {a b : Nat} (ha : a < xs.length) (hb : b < xs.length) (j : Nat) : ga ((xs.set a (ga xs b)).set b (ga xs a)) j = ga xs (swN a b j) := by
  unfold swN
  rw [U3 _ _ _ _ (by simpa using hb), U3 _ _ _ _ ha]
  by_cases h1 : b = j
  · subst h1
    rw [if_pos rfl]
    by_cases h2 : b = a
    · subst h2; simp
    · rw [if_neg h2, if_pos rfl]
  · rw [if_neg h1]
    by_cases h2 : a = j
    · subst h2; rw [if_pos rfl, if_pos rfl]
    · rw [if_neg h2, if_neg fun x => h2 x.symm, if_neg fun x => h1 x.symm]
theorem SH.tabswap (S : SH w M X H) (a b : Nat) (hi : nth H i = some (Rs.tab C vs xss)) (ha : a < xss.length) (hb : b < xss.length) (hH : H.set i (Rs.tab C ((vs.set a (ga vs b)).set b (ga vs a)) ((xss.set a (ga xss b)).set b (ga xss a))) = H') : SH w M X H' := by
  have ht : TabOk C vs xss (hp w) := S.get hi
  have hav : a < vs.length := by rw [ht.1]; exact ha
  have hbv : b < vs.length := by rw [ht.1]; exact hb
  have hbl : ∀ g, g ∈ (Rs.tab C ((vs.set a (ga vs b)).set b (ga vs a)) ((xss.set a (ga xss b)).set b (ga xss a))).bl → g ∈ (Rs.tab C vs xss).bl := fun g hg => by
    obtain ⟨j, hj, hg⟩ := tab_mem.1 hg
    rw [ga_sw hav hbv] at hg
    exact tab_mem.2 ⟨_, swN_lt hav hbv (by simpa using hj), hg⟩
  refine S.step hi hH (Like.refl w) (fun _ _ _ => rfl) ⟨by simp [ht.1], fun j hj => ?_, fun j m hj hm hjm g hg => ?_⟩ (fun g hg => ⟨.inl (hbl g hg), ?_⟩)
  · rw [ga_sw hav hbv, ga_sw ha hb]
    exact ht.2.1 _ (swN_lt ha hb (by simpa using hj))
  · rw [ga_sw hav hbv] at hg ⊢
    exact ht.2.2 _ _ (swN_lt hav hbv (by simpa using hj)) (swN_lt hav hbv (by simpa using hm)) (swN_inj hjm) g hg
  · have hm : Rs.tab C vs xss ∈ H := by rw [Up] at hi; exact List.mem_of_getElem? hi
    exact (S.bl _ hm g (hbl g hg)).1
theorem flat_drop1 {α : Type} {C : Cd α} (hk : C.k = 1) : ∀ (xs : List α) (m : Nat), (xs.drop m).flatMap C.f = (xs.flatMap C.f).drop m
  | [], m => by simp
  | x :: xs, 0 => by simp
  | x :: xs, m + 1 => by
    have hl : (C.f x).length = 1 := by rw [C.hf, hk]
    match e : C.f x, hl with
    | [u], _ =>
      rw [List.flatMap_cons, List.drop_succ_cons, e]
      show _ = List.drop m (xs.flatMap C.f)
      exact flat_drop1 hk xs m
theorem RdA.cutv {A : Option Addr} {c lo : Nat} {xs : List α} (hk : C.k = 1) (h : RdA C N A c xs) (hlo : lo ≤ xs.length) : RdA C N (if c = lo then A else A.map (·.add lo)) (c - lo) (xs.drop lo) := by
  refine ⟨by rw [List.length_drop]; have := h.1; omega, ?_, fun h0 => ?_⟩
  · rw [List.length_drop]
    exact Nat.le_trans (Nat.mul_le_mul_right _ (Nat.sub_le _ _)) h.2.1
  · rw [List.length_drop] at h0
    have h1 := h.1
    obtain ⟨e, cs, T, fz, hN, hc⟩ := h.2.2 (by omega)
    have e2 : (if c = lo then A else A.map (·.add lo)) = some ⟨adB A, adO A + lo, none⟩ := by
      rw [if_neg (by omega)]
      generalize adB A = b at e
      generalize adO A = o at e
      subst e
      simp only [Option.map_some]
      unfold Addr.add
      split
      · rename_i e; subst e; rfl
      · rfl
    rw [e2]
    refine ⟨rfl, cs, T, fz, hN, fun j u hu => ?_⟩
    rw [flat_drop1 hk, List.getElem?_drop] at hu
    have := hc _ _ hu
    show cs[adO A + lo + j]? = some u
    rw [Nat.add_assoc]; exact this
theorem SH.lendcut {rv : Value} {xs : List α} (S : SH w M X H) (lo : Nat) (hk : C.k = 1) (hi : nth H i = some (Rs.row C rv xs)) (hr : xs.length * C.u8 ≤ 140737488355328) (hlo : lo ≤ xs.length) : ∃ A c, alv rv lo (xs.length - lo) = .slice A (xs.drop lo).length c ∧ RdA C (M.un (XH w X H).h) A c (xs.drop lo) := by
  obtain ⟨A, c, e, h⟩ := S.lendRd hi hr
  subst e
  exact ⟨_, _, by rw [List.length_drop]; rfl, h.cutv hk hlo⟩
end
end Go.Proofs.Ytkcighnochjlgaa
namespace Go.Proofs.Ytkcighnochjlgaa
open Go.ChangeShapes Go.WideShapes Go.ChangeAt Go.RowKit
def idxG {α : Type} (p : α → Bool) (xs : List α) : Int := match xs.findIdx? p with
 | some i => (i : Int)
 | none => -1
section
variable {α : Type} [Inhabited α]
theorem idxG_hit {p : α → Bool} {xs : List α} {k : Nat} (hk : k < xs.length) (h : p (ga xs k) = true) (h0 : ∀ j, j < k → p (ga xs j) = false) : idxG p xs = k := by
 have : xs.findIdx? p = some k := by
  rw [List.findIdx?_eq_some_iff_getElem]
  refine ⟨hk, by rw [← U14 hk]; exact h, fun j hj => ?_⟩
  rw [← U14 (by omega), h0 j hj]; simp
 simp [idxG, this]
theorem idxG_none {p : α → Bool} {xs : List α} (h0 : ∀ j, j < xs.length → p (ga xs j) = false) : idxG p xs = -1 := by
 have : xs.findIdx? p = none := by
  rw [List.findIdx?_eq_none_iff]
  intro x hx
  obtain ⟨j, hj, rfl⟩ := List.mem_iff_getElem.1 hx
  rw [← U14 hj]; exact h0 j hj
 simp [idxG, this]
theorem idxG_pos {p : α → Bool} {xs : List α} (h : ¬ idxG p xs < 0) : ∃ k : Nat, idxG p xs = (k : Int) ∧ k < xs.length ∧ p (ga xs k) = true := by
 unfold idxG at h ⊢
 cases e : xs.findIdx? p with
 | none => rw [e] at h; exact absurd (by decide) h
 | some k =>
  rw [List.findIdx?_eq_some_iff_getElem] at e
  obtain ⟨h1, h2, _⟩ := e
  exact ⟨k, rfl, h1, by rw [U14 h1]; exact h2⟩
theorem idxG_neg {p : α → Bool} {xs : List α} (h : idxG p xs < 0) : ∀ k, k < xs.length → p (ga xs k) = false := by
 unfold idxG at h
 cases e : xs.findIdx? p with
 | some k => rw [e] at h; exact absurd h (by show ¬ ((k : Int) < 0); omega)
 | none =>
  rw [List.findIdx?_eq_none_iff] at e
  intro k hk
  rw [U14 hk]; exact e _ (List.getElem_mem hk)
theorem ga_drop' (xs : List α) (a k : Nat) : ga (xs.drop a) k = ga xs (a + k) := by
 unfold ga
 rw [List.getD_eq_getElem?_getD, List.getD_eq_getElem?_getD, List.getElem?_drop]
end
def ldB (n : Nat) (r : List Int) : Bool := decide (ga r n ≠ 0)
theorem FP_len {p : Int} {m c out k : Nat} {xss tb : List (List Int)} (F : Fx.FP p m xss tb c out) {x : List Int} (h : x ∈ tb.drop k) : x.length = m := by
 obtain ⟨j, hj, rfl⟩ := List.mem_iff_getElem.1 (List.mem_of_mem_drop h)
 have := F.row j (by rw [← F.len]; exact hj)
 rwa [U14 hj] at this
theorem FP_none {p : Int} {m c out : Nat} {xss tb : List (List Int)} (F : Fx.FP p m xss tb c out) (h : idxG (ldB c) (tb.drop out) < 0) : ∀ i, out ≤ i → i < xss.length → ga (ga tb i) c = 0 := by
 intro i h1 h2
 have := idxG_neg h (i - out) (by rw [List.length_drop, F.len]; omega)
 rw [ga_drop', show out + (i - out) = i by omega] at this
 unfold ldB at this
 simpa using this
theorem FP_some {p : Int} {m c out : Nat} {xss tb : List (List Int)} (F : Fx.FP p m xss tb c out) (h : ¬ idxG (ldB c) (tb.drop out) < 0) : ∃ k : Nat, idxG (ldB c) (tb.drop out) = (k : Int) ∧ out + k < xss.length ∧ ga (ga tb (out + k)) c ≠ 0 := by
 obtain ⟨k, h1, h2, h3⟩ := idxG_pos h
 rw [List.length_drop, F.len] at h2
 refine ⟨k, h1, by omega, ?_⟩
 rw [ga_drop'] at h3
 unfold ldB at h3
 simpa using h3
theorem mulbd2 {a b p : Int} (ha : 0 ≤ a ∧ a < p) (hb : 0 ≤ b ∧ b < p) (hp : p ≤ 97) : 0 ≤ a * b ∧ a * b ≤ 10000 := mulbd (by omega) (by omega)
noncomputable def Z8 := Try.f118.body.getD .skip
set_option maxRecDepth 10000 in
theorem rank1_q {w : World} {M : Hp} {X : Fr} (r : List Int) {rA : Option Addr} {rc : Nat} (n : Nat) {g : Nat} (hr : RdA U2 (M.un X.h) rA rc r) (hb : BxM (M.un X.h) g 3 [.int .i64 (n : Int)]) (hn : n < r.length) (S : SH w M X []) : Cq Try.prog 118 [.slice rA r.length rc, .pointer (some ⟨g, 0, none⟩)] w M X (fun u => u = .bool (ldB n r)) := by
 unfold Cq
 have rmhr : r.length * 8 ≤ 140737488355328 := hr.room
 refine U7 (b := Z8) Try.func118 rfl Try.ntmps118 rfl (fun C hC => (zzwsk [0, 1] rfl (zzsR (zzmv 1 rfl (zzeR [0, 1] rfl (zzmv 1 rfl (zzwr rfl (zzld1 rfl uT3 (hb.cell S.um rfl)) (zzwr rfl (Ux n rfl sl36 hr) (zzwr rfl (zzld1 rfl uT3 (hr.cell S.um (i := n) (by first | omega | (simp only [ls]; omega)) 0 rfl rfl)) ?_)))))))))
 refine zzmv 2 rfl (zzeT [3] rfl (zzrT hC rfl ?_))
 exact ⟨_, rfl, (S.pick [] [] (by decide) trivial), (by show Value.bool _ = Value.bool _; refine congrArg Value.bool ?_; unfold ldB; first | rfl | (rw [decide_eq_decide]))⟩
noncomputable def Z9 := Try.f117.body.getD .skip
set_option maxRecDepth 10000 in
theorem IndexFuncL_q {w : World} {M : Hp} {X : Fr} (s : List (List Int)) {sA : Option Addr} {sc : Nat} {sv : List SlV} (fv : FuncId) (cap : List Value) (p : List Int → Bool) (hs : RdA (cdV 36) (M.un X.h) sA sc sv) (hds : Rd2 U2 (M.un X.h) sv s) (hen : ∀ args w, (callFunc fv args).run Try.prog w = .ok (.enter fv args) w) (hf : ∀ (w : World) (Y : Fr), (M.un X.h).le (M.un Y.h) → SH w M Y [] → ∀ (A : Option Addr) (c : Nat) (x : List Int), x ∈ s → RdA U2 (M.un Y.h) A c x → Cq Try.prog fv ([.slice A x.length c] ++ cap) w M Y (fun u => u = .bool (p x))) (S : SH w M X []) : Cq Try.prog 117 [.slice sA sv.length sc, .func (.func fv) #[] cap.toArray] w M X (fun u => u = .int .i64 (idxG p s)) := by
 unfold Cq
 have rmhs : sv.length * 24 ≤ 140737488355328 := hs.room
 refine U7 (b := Z9) Try.func117 rfl Try.ntmps117 rfl (fun C hC => (zzwsk [0, 1] rfl (zzsR (zzmv 1 rfl (zzeS [0, 1] rfl (zzsR (zzmv 1 rfl (zzwr rfl (zzln rfl uT69) (zzmv 1 rfl ?_)))))))))
 refine zzeT [0, 1, 7, 8] rfl (zzbK ?_)
 refine U4 (fun mx_ ax_ wx_ => ∃ (k : Nat), mx_ = s.length - k ∧ Env 19 [(0, .slice sA sv.length sc), (1, .func (.func fv) #[] cap.toArray), (7, .int .i64 (sv.length : Int)), (8, .int .i64 (k : Int))] ax_ ∧ SH wx_ M X [] ∧ k ≤ s.length ∧ (∀ j, j < k → p (ga s j) = false)) rfl ?_ ?_
 ·intro ax_ hax_
  refine ⟨_, ⟨0, rfl, hax_.su rfl, S.pick [] [] (by decide) trivial, ?hq1f0, ?hq1f1⟩⟩
  case hq1f0 => (have := hds.1; omega)
  case hq1f1 => (intro j hj; omega)
 ·rintro m1 a1 w1 ⟨k, rfl, he1, S1, hk, hno⟩
  clear S
  refine zziN he1 ?_
  clear he1 a1
  have hsl := hds.1
  refine zzsR (zzmv 1 rfl (zzeE (zztS ?_)))
  refine zzcD rfl (fun hb9 => ?_) (fun hb9 => ?_)
  ·refine zzsK (zznS [0, 1, 7, 8] rfl (zzbK (zzsR (zzmv 2 rfl (zzeR [0, 1, 7, 8, 5] rfl (zzmv 3 rfl (zzwr rfl (Ux k rfl sl69 hs) ?_)))))))
   obtain ⟨hn1, hr1⟩ := hds.2 k (by first | omega | (simp only [ls]; omega))
   have rmhr1 : (ga s k).length * 8 ≤ 140737488355328 := hr1.room
   refine zzwr rfl (zzld1 rfl uT36 (hs.cell S1.um (i := k) (by first | omega | (simp only [ls]; omega)) 0 rfl (congrArg (fun n => some (Value.slice _ n _)) hn1))) ?_
   refine zzwU rfl (wo_cqF rfl rfl rfl rfl rfl rfl rfl hen S1 (hf _ _ S1.Uj S1.lend _ _ _ (ga_mem (by omega)) (hr1.mono S1.Uj)) ?_)
   rintro _ w2 S2 rfl; clear S1
   refine zzeT [0, 1, 7, 8, 5, 16] rfl ?_
   refine zzcN rfl (fun hb16 => ?_) (fun hb16 => ?_)
   ·refine zzsR (zzmv 2 rfl (zzeT [4] rfl (zzrT hC rfl ?_)))
    exact ⟨_, rfl, (S2.pick [] [] (by decide) trivial), (by rw [idxG_hit (by omega) hb16 hno]; rfl)⟩
   ·refine zzsK (U8 (zznT [0, 1, 7, 8] rfl (zzrG (zzwr rfl (U1 rfl) (zzmv 1 rfl (zzeE (Uf ?_)))))))
    intro ax_ hax_
    refine ⟨_, ?hq2m, ⟨k + 1, rfl, hax_.su rfl, S2.pick [] [] (by decide) trivial, ?hq2f0, ?hq2f1⟩⟩
    case hq2f0 => omega
    case hq2f1 => (intro j hj; by_cases h : j = k; (subst h; exact hb16); exact hno j (by omega))
    case hq2m => omega
  ·refine zzxE rfl (zznR [] rfl (zzmv 1 rfl (zzeE (U6 (zzrT hC rfl ?_)))))
   exact ⟨_, rfl, (S1.pick [] [] (by decide) trivial), (by rw [idxG_none (fun j hj => hno j (by omega))]; rfl)⟩
theorem elR_row {p G : Int} {c m : Nat} {f : Int} {piv row r2 : List Int} (h1 : r2.length = m) (h2 : row.length = m) (hG : G = Fx.elG p f c row) (h : ∀ x, x < m → ga r2 x = Fx.elV p G (ga row x) (ga piv x)) : r2 = Fx.elR p (Fx.elG p f c row) piv row := by
 refine ga_ext (by rw [Fx.elR_len]; omega) fun x hx => ?_
 rw [Fx.elR_ga (by omega), h x (by omega), hG]
noncomputable def Za := Try.f84.body.getD .skip
set_option maxHeartbeats 2000000 in
set_option maxRecDepth 10000 in
theorem rank_b {w : World} {M : Hp} {X : Fr} {vrw : Value} (vs : List SlV) (xss : List (List Int)) (p : Int) {m : Nat} (hp : U1t p = true) (hN : ∀ i, i < xss.length → (ga xss i).length = m) (hR : ∀ i, i < xss.length → ∀ j, j < m → 0 ≤ ga (ga xss i) j ∧ ga (ga xss i) j < p) (hm : m ≤ 2097152) (hxl : xss.length ≤ 2097152) (S : SH w M X [Rs.bun [Rs.row (cdV 36) vrw vs, Rs.tab U2 vs xss]]) : C1 Try.prog 84 [vrw, .int .i64 p] w M X (fun u M' r' => u = .int .i64 ((Fx.ldc p m xss.length (Fx.tf xss) m : Nat) : Int) ∧ M' = M ∧ ∃ us ys, r' = Rs.bun [Rs.row (cdV 36) vrw us, Rs.tab U2 us ys]) := by
 unfold C1
 replace S := S.unbun
 have hpI := U1s hp
 refine U7 (b := Za) Try.func84 rfl Try.ntmps84 rfl (fun C hC => (zzwsk [0, 1] rfl (zzsR (zzmv 1 rfl (zzeR [0, 1] rfl (zzmv 1 rfl (zzeE (zztS (zzsR ?_)))))))))
 refine zzwU rfl (Uk (l := [_]) rfl rfl rfl zr3 rfl S ?_)
 intro gb1 w1 S1; clear S
 refine zzwU rfl (U1q 0 [_] [_] [_, _, _] rfl S1 rfl rfl sz3 rfl rfl ?_)
 intro w2 S2; clear S1
 refine zzeE (U6 (zzbK ?_))
 refine U4 (fun mx_ ax_ wx_ => ∃ (c : Nat) (out : Nat) (vq : List SlV) (tb : List (List Int)) (gcb : Nat), mx_ = m - c ∧ Env 122 [(0, vrw), (1, .int .i64 p), (5, .int .i64 (out : Int)), (6, .pointer (some ⟨gcb, 0, none⟩))] ax_ ∧ SH wx_ M X [Rs.box gcb 3 [.int .i64 (c : Int)], Rs.row (cdV 36) vrw vq, Rs.tab U2 vq tb] ∧ Fx.FP p m xss tb c out ∧ c ≤ m) rfl ?_ ?_
 ·intro ax_ hax_
  refine ⟨_, ⟨0, 0, vs, xss, _, rfl, hax_.su rfl, S2.pick [0, 1, 2] [_, _, _] (by decide) ⟨rfl, rfl, rfl, trivial⟩, ?hq1f0, ?hq1f1⟩⟩
  case hq1f0 => exact Fx.FP.start hN hR
  case hq1f1 => omega
 ·rintro m1 a1 w3 ⟨c, out, vq, tb, gcb, rfl, he1, S3, hF, hcm⟩
  clear S2
  refine zziN he1 ?_
  clear he1 a1
  have hvq := S3.tablen (i := 2) rfl
  have htl := hF.len
  have hle := hF.le
  have hrow0 := hF.row 0
  have hroo := fun i9 (h9 : i9 < tb.length) => (show (ga tb i9).length * 8 ≤ 140737488355328 by rw [hF.row i9 (by omega)]; omega)
  refine zzsS (zzsS (zzdW S3 12 ?_))
  clear S3
  refine zzmW 11 [0] rfl (zzlW 1 rfl (fun hZz Sz => zzlnR (i := 1) rfl sl69 Sz.suf rfl) (zzmW 7 [2, 3, 4] rfl ?_))
  refine wa_splitD (t := 16) rfl (fun hg16 => ?_) (fun hg16 => ?_)
  ·refine zzlW 5 rfl (fun hZz Sz => zzld1 rfl uT3 (Sz.suf.bc 0 rfl rfl)) (zzmW 5 [6] rfl (zzlW 7 rfl (fun hZz Sz => Uc (i := 1) 0 rfl sl69 Sz.suf rfl) (zzlW 8 rfl (fun hZz Sz => zzld1 rfl uT36 (Sz.suf.rowc (i := 1) (e := 0) (j := 0) rfl (by first | omega | (simp only [ls]; omega)) rfl rfl)) ?_)))
   refine zzlW 9 rfl (fun hZz Sz => run_lenT (C := U2) (vs := vq) (xss := tb) (k := 0) (i := 2) rfl rfl rfl rfl rfl rfl rfl sl36 Sz.suf rfl (by first | omega | (simp only [ls]; omega) | (rw [U3 _ _ _ _ (by first | omega | (simp only [List.length_set]; omega)), if_pos rfl]; simp only [List.length_set]; omega))) ?_
   refine zzmW 0 [10, 11] rfl (zzeW (fun w16 S16 => (zznT [0, 1, 5, 6, 23] rfl ?_)))
   refine zzcD rfl (fun hb23 => ?_) (fun hb23 => ?_)
   ·refine zzsK (zznS [0, 1, 5, 6] rfl (zzbK (zzsS ?_)))
    have hal := S16.sl (i := 1) rfl
    refine zzrG (zzmv 2 rfl (zzwr rfl (run_aliasDG (C := (cdV 36)) (xs := vq) out rfl rfl rfl rfl sl69 hal (by first | rfl | omega) ((by first | omega | (simp only [ls]; omega)))) ?_))
    refine zzwr rfl (run_makeFunc (vs := [_]) rfl rfl rfl rfl) ?_
    obtain ⟨A1, c1, e1, hr1⟩ := S16.lendcut (C := (cdV 36)) (i := 1) out rfl rfl (by show _ * 24 ≤ _; first | omega | (simp only [ls]; omega)) (by first | omega | (simp only [ls]; omega) | (rw [U3 _ _ _ _ (by first | omega | (simp only [List.length_set]; omega)), if_pos rfl]; simp only [List.length_set]; omega))
    have hd1 := (S16.lendtab (i := 2) rfl (by exact hroo)).drop_ out
    have hcall1 := IndexFuncL_q (tb.drop out) 118 _ (ldB c) hr1 hd1 cf118 (fun w9 Y9 hl9 S9 A9 c9 x9 hx9 hr9 => rank1_q x9 c hr9 ((S16.boxM (i := 0) rfl).mono hl9) (by (have h9 := FP_len hF hx9; omega)) S9) S16.lend
    refine zzwU rfl (U26 rfl rfl rfl rfl rfl rfl rfl cf117 S16 (Cq.cast (by simp only [e1]) (hcall1)) ?_)
    rintro _ w17 S17 rfl; clear S16
    refine zzmv 1 rfl (zzeS [0, 1, 5, 6, 7] rfl (zzsR (zzmv 2 rfl (zzeT [0, 1, 5, 6, 7, 32] rfl ?_))))
    refine zzcD rfl (fun hb32 => ?_) (fun hb32 => ?_)
    ·refine zzxE rfl (zznS [0, 1, 5, 6] rfl (zzsR (zzwr rfl (zzld1 rfl uT3 (S17.bc 0 rfl rfl)) (zzeT [0, 1, 5, 120] rfl (zzrG (zzwU rfl (Uk (l := [_]) rfl rfl rfl zr3 rfl S17 ?_)))))))
     intro gb2 w18 S18; clear S17
     refine zzwU rfl (U1q 0 [_] [_] [_, _, _, _] rfl S18 rfl rfl sz3 rfl rfl ?_)
     intro w19 S19; clear S18
     refine zzeT [0, 1, 5, 6] rfl (zzrG (zzwr rfl (zzld1 rfl uT3 (S19.bc 0 rfl rfl)) (zzwr rfl (U1 rfl) (zzwU rfl (U1q 0 [_] [_] [_, _, _, _] rfl S19 rfl rfl sz3 rfl rfl ?_)))))
     intro w20 S20; clear S19
     refine zzeE (Uf ?_)
     intro ax_ hax_
     refine ⟨_, ?hq2m, ⟨c + 1, out, vq, tb, _, rfl, hax_.su rfl, S20.pick [0, 2, 3] [_, _, _] (by decide) ⟨rfl, rfl, rfl, trivial⟩, ?hq2f0, ?hq2f1⟩⟩
     case hq2f0 => exact hF.pass hpI.1 (by omega) (FP_none hF hb32)
     case hq2f1 => omega
     case hq2m => omega
    ·obtain ⟨b, hb1, hb2, hb3⟩ := FP_some hF (by omega)
     refine ws_eq 7 (.int .i64 (b : Int)) rfl (int_eq (by omega)) ?_
     refine zzsK (zznS [0, 1, 5, 6, 7] rfl ?_)
     refine ws_cut (fun ax_ wx_ => ∃ (vr : List SlV) (tc : List (List Int)), Env 122 [(0, vrw), (1, .int .i64 p), (5, .int .i64 (out : Int)), (6, .pointer (some ⟨gcb, 0, none⟩))] ax_ ∧ SH wx_ M X [Rs.box gcb 3 [.int .i64 (c : Int)], Rs.row (cdV 36) vrw vr, Rs.tab U2 vr tc] ∧ Fx.FP p m xss tc c out ∧ ga (ga tc out) c ≠ 0) ?_ ?_
     ·refine zzdW S17 20 ?_
      clear S17
      refine zzmW 15 [0, 1, 2, 3, 4] rfl (zzpW 5 rfl (U1 rfl) (zzmW 11 [6, 7, 8] rfl (zzpW 9 rfl (U1 rfl) (zzlW 10 rfl (fun hZz Sz => Uc (i := 1) (out + b) rfl sl69 Sz.suf rfl) (zzlW 11 rfl (fun hZz Sz => zzld1 rfl uT36 (Sz.suf.rowc (i := 1) (e := out + b) (j := 0) rfl (by first | omega | (simp only [ls]; omega)) rfl rfl)) ?_)))))
      refine zzmW 6 [12, 13] rfl (zzlW 14 rfl (fun hZz Sz => Uc (i := 1) out rfl sl69 Sz.suf rfl) (zzlW 15 rfl (fun hZz Sz => zzld1 rfl uT36 (Sz.suf.rowc (i := 1) (e := out) (j := 0) rfl (by first | omega | (simp only [ls]; omega)) rfl rfl)) ?_))
      refine zzlW 16 rfl (fun hZz Sz => Uc (i := 1) out rfl sl69 Sz.suf rfl) (zzuW 17 rfl (fun w40 S40 => ((Ub (C := (cdV 36)) (i := 1) (e := out) (j := 0) (us := [_]) (H' := [_, _, _]) (ga vq (out + b)) rfl rfl S40 rfl (by first | omega | (simp only [ls]; omega)) rfl rfl rfl sz36 rfl rfl rfl rfl ?_))))
      intro w41 S41; clear S40
      refine zzturnW S41 ?_; clear S41
      change WA _ _ _ _ _ _ _ _ _ _ _ _ [_, _, _]
      refine zzlW 18 rfl (fun hZz Sz => Uc (i := 1) (out + b) rfl sl69 Sz.suf rfl) (zzuW 19 rfl (fun w44 S44 => ((Ub (C := (cdV 36)) (i := 1) (e := out + b) (j := 0) (us := [_]) (H' := [_, _, _]) (ga vq out) rfl rfl S44 rfl (by first | omega | (simp only [ls]; omega)) rfl rfl rfl sz36 rfl rfl rfl rfl ?_))))
      intro w45 S45; clear S44
      have S46 := S45.tabswap (C := U2) (vs := vq) (xss := tb) (i := 2) (H' := [_, _, _]) out (out + b) rfl (by first | omega | (simp only [ls]; omega) | (rw [U3 _ _ _ _ (by first | omega | (simp only [List.length_set]; omega)), if_pos rfl]; simp only [List.length_set]; omega)) (by first | omega | (simp only [ls]; omega) | (rw [U3 _ _ _ _ (by first | omega | (simp only [List.length_set]; omega)), if_pos rfl]; simp only [List.length_set]; omega)) rfl; clear S45
      refine zzturnW S46 ?_; clear S46
      change WA _ _ _ _ _ _ _ _ _ _ _ _ [_, _, _]
      refine zzeW (fun w46 S47 => (Uf ?_))
      intro ax_ hax_
      refine ⟨(vq.set out (ga vq (out + b))).set (out + b) (ga vq out), (tb.set out (ga tb (out + b))).set (out + b) (ga tb out), hax_.su rfl, S47.pick [0, 1, 2] [_, _, _] (by decide) ⟨rfl, rfl, rfl, trivial⟩, ?hq3f0, ?hq3f1⟩
      case hq3f0 => exact hF.swap (b := out + b) (by omega) (by omega)
      case hq3f1 => (rw [ga_sw (by omega) (by omega)]; unfold swN; rw [if_pos rfl]; exact hb3)
     ·rintro a2 w21 ⟨vr, tc, he2, S21, hF2, hpv⟩
      clear S17
      refine nm_in he2 ?_
      clear he2 a2
      refine zztS ?_
      have hvr := S21.tablen (i := 2) rfl
      have htl2 := hF2.len
      have hro := hF2.row out (by omega)
      have hrg := hF2.rng out (by omega)
      have hpr := hrg c (by omega)
      refine zzdW S21 10 ?_
      clear S21
      refine zzmW 8 [0, 1] rfl (zzlW 2 rfl (fun hZz Sz => Uc (i := 1) out rfl sl69 Sz.suf rfl) (zzlW 3 rfl (fun hZz Sz => zzld1 rfl uT36 (Sz.suf.rowc (i := 1) (e := out) (j := 0) rfl (by first | omega | (simp only [ls]; omega)) rfl rfl)) ?_))
      refine zzlW 4 rfl (fun hZz Sz => zzld1 rfl uT3 (Sz.suf.bc 0 rfl rfl)) (zzlW 5 rfl (fun hZz Sz => Uz (C := U2) (vs := vr) (xss := tc) (i := 2) out c rfl rfl rfl rfl sl36 Sz.suf rfl (by first | omega | (simp only [ls]; omega) | (rw [U3 _ _ _ _ (by first | omega | (simp only [List.length_set]; omega)), if_pos rfl]; simp only [List.length_set]; omega)) (by first | rfl | omega) (by first | omega | (simp only [ls]; omega) | (rw [U3 _ _ _ _ (by first | omega | (simp only [List.length_set]; omega)), if_pos rfl]; simp only [List.length_set]; omega))) ?_)
      refine zzlW 6 rfl (fun hZz Sz => zzld1 rfl uT3 (Sz.suf.tabc (i := 2) (k := out) (e := c) (j := 0) rfl (by first | omega | (simp only [ls]; omega) | (rw [U3 _ _ _ _ (by first | omega | (simp only [List.length_set]; omega)), if_pos rfl]; simp only [List.length_set]; omega)) (by first | omega | (simp only [ls]; omega) | (rw [U3 _ _ _ _ (by first | omega | (simp only [List.length_set]; omega)), if_pos rfl]; simp only [List.length_set]; omega)) rfl rfl)) ?_
      refine zzmW 2 [7] rfl (zzyW 8 rfl (fun hZz Sz => U1j rfl rfl rfl rfl rfl cf119 Sz (inverse_q (ga (ga tc out) c) p (by omega) (by omega) Sz.lend)) ?_)
      refine zzmW 0 [9] rfl (zzeW (fun w57 S58 => (zznS [0, 1, 5, 6, 8] rfl (zzsS ?_))))
      obtain ⟨f, hf⟩ : ∃ f, f = invI (ga (ga tc out) c) p := ⟨_, rfl⟩
      refine ws_eq 8 (.int .i64 f) rfl (int_eq (by rw [hf])) ?_
      have hinv : (ga (ga tc out) c * f).tmod p = 1 := by rw [hf]; exact inv_ok hp hpr.1 hpr.2 hpv
      have hfb := inv_bd (a := ga (ga tc out) c) (p := p) (by omega)
      rw [← hf] at hfb
      refine zzrG (zzmv 1 rfl (zzwr rfl (zzlnR (i := 1) rfl sl69 S58 rfl) (zzmv 1 rfl (zzeT [0, 1, 5, 6, 8, 61, 62] rfl (zzbK ?_)))))
      refine U4 (fun mx_ ax_ wx_ => ∃ (k : Nat) (tk : List (List Int)), mx_ = xss.length - k ∧ Env 122 [(0, vrw), (1, .int .i64 p), (5, .int .i64 (out : Int)), (6, .pointer (some ⟨gcb, 0, none⟩)), (8, .int .i64 f), (61, .int .i64 (vr.length : Int)), (62, .int .i64 (k : Int))] ax_ ∧ SH wx_ M X [Rs.box gcb 3 [.int .i64 (c : Int)], Rs.row (cdV 36) vrw vr, Rs.tab U2 vr tk] ∧ k ≤ xss.length ∧ tk.length = xss.length ∧ (∀ j, j < xss.length → ga tk j = if j < k ∧ j ≠ out then Fx.elR p (Fx.elG p f c (ga tc j)) (ga tc out) (ga tc j) else ga tc j)) rfl ?_ ?_
      ·intro ax_ hax_
       refine ⟨_, ⟨0, tc, rfl, hax_.su rfl, S58.pick [0, 1, 2] [_, _, _] (by decide) ⟨rfl, rfl, rfl, trivial⟩, ?hq4f0, ?hq4f1, ?hq4f2⟩⟩
       case hq4f0 => omega
       case hq4f1 => omega
       case hq4f2 => (intro j hj; rw [if_neg (by omega)])
      ·rintro m2 a3 w58 ⟨k, tk, rfl, he3, S59, hk, hkl, hkg⟩
       clear S58
       refine zziN he3 ?_
       clear he3 a3
       have hkk := hkg k
       have hko := hkg out (by omega)
       rw [if_neg (by omega)] at hko
       have htrk := hF2.row k
       have hrk := hF2.rng k
       refine zzsR (zzmv 1 rfl (zzeE (zztS ?_)))
       refine zzcD rfl (fun hb63 => ?_) (fun hb63 => ?_)
       ·refine zzsK (zznS [0, 1, 5, 6, 8, 61, 62] rfl (zzbK (zzsR (zzmv 2 rfl (zzeS [0, 1, 5, 6, 8, 61, 62, 9] rfl (zzsR (zzmv 3 rfl (zzeT [0, 1, 5, 6, 8, 61, 62, 9, 67] rfl ?_))))))))
        refine zzcD rfl (fun hb67 => ?_) (fun hb67 => ?_)
        ·refine zzxE rfl (zznT [0, 1, 5, 6, 8, 61, 62] rfl (zzrG (zzwr rfl (U1 rfl) (zzmv 1 rfl (zzeE (Uf ?_))))))
         intro ax_ hax_
         refine ⟨_, ?hq5m, ⟨k + 1, tk, rfl, hax_.su rfl, S59.pick [0, 1, 2] [_, _, _] (by decide) ⟨rfl, rfl, rfl, trivial⟩, ?hq5f0, ?hq5f1, ?hq5f2⟩⟩
         case hq5f0 => omega
         case hq5f1 => exact hkl
         case hq5f2 => (intro j hj; rw [hkg j hj]; by_cases h2 : j < k ∧ j ≠ out; (rw [if_pos h2, if_pos (by omega)]); (rw [if_neg h2, if_neg (by omega)]))
         case hq5m => omega
        ·have hkk2 := hkk (by omega)
         rw [if_neg (by omega)] at hkk2
         have htrk2 := htrk (by omega)
         have htkk : (ga tk k).length = m := by rw [hkk2]; exact htrk2
         have hrk2 := hrk (by omega)
         have hrkc := hrk2 c (by omega)
         have hmk := mulbd2 hrkc hfb (by omega)
         rw [← hkk2] at hmk
         refine zzsK (zznS [0, 1, 5, 6, 8, 61, 62, 9] rfl (zzdW S59 12 ?_))
         clear S59
         refine zzmW 10 [0, 1] rfl (zzlW 2 rfl (fun hZz Sz => Uc (i := 1) k rfl sl69 Sz.suf rfl) (zzlW 3 rfl (fun hZz Sz => zzld1 rfl uT36 (Sz.suf.rowc (i := 1) (e := k) (j := 0) rfl (by first | omega | (simp only [ls]; omega)) rfl rfl)) ?_))
         refine zzlW 4 rfl (fun hZz Sz => zzld1 rfl uT3 (Sz.suf.bc 0 rfl rfl)) (zzlW 5 rfl (fun hZz Sz => Uz (C := U2) (vs := vr) (xss := tk) (i := 2) k c rfl rfl rfl rfl sl36 Sz.suf rfl (by first | omega | (simp only [ls]; omega) | (rw [U3 _ _ _ _ (by first | omega | (simp only [List.length_set]; omega)), if_pos rfl]; simp only [List.length_set]; omega)) (by first | rfl | omega) (by first | omega | (simp only [ls]; omega) | (rw [U3 _ _ _ _ (by first | omega | (simp only [List.length_set]; omega)), if_pos rfl]; simp only [List.length_set]; omega))) ?_)
         refine zzlW 6 rfl (fun hZz Sz => zzld1 rfl uT3 (Sz.suf.tabc (i := 2) (k := k) (e := c) (j := 0) rfl (by first | omega | (simp only [ls]; omega) | (rw [U3 _ _ _ _ (by first | omega | (simp only [List.length_set]; omega)), if_pos rfl]; simp only [List.length_set]; omega)) (by first | omega | (simp only [ls]; omega) | (rw [U3 _ _ _ _ (by first | omega | (simp only [List.length_set]; omega)), if_pos rfl]; simp only [List.length_set]; omega)) rfl rfl)) ?_
         refine zzmW 4 [7] rfl (zzpW 8 rfl (run_mul rfl rfl rfl (by first | omega | (simp only [ls]; omega))) ?_)
         refine zzmW 2 [9] rfl (zzpW 10 rfl (run_rem rfl rfl rfl (by first | omega | (simp only [ls]; omega))) ?_)
         refine zzmW 0 [11] rfl (zzeW (fun w71 S72 => (zznS [0, 1, 5, 6, 8, 61, 62, 9, 10] rfl ?_)))
         obtain ⟨G, hG0⟩ : ∃ G, G = ((ga (ga tk k) c) * f) % p := ⟨_, rfl⟩
         refine ws_eq 10 (.int .i64 G) rfl (int_eq (by rw [hG0])) ?_
         have hG : G = Fx.elG p f c (ga tc k) := by (unfold Fx.elG; rw [Int.tmod_eq_emod_of_nonneg (by rw [← hkk2]; exact hmk.1), hG0, hkk2])
         have hGb : 0 ≤ G ∧ G < p := by (rw [hG]; exact Fx.tm_pos (by omega) (by rw [← hkk2]; exact hmk.1))
         refine zzrG (zzmv 2 rfl (zzwr rfl (Uc (i := 1) k rfl sl69 S72 rfl) (zzwr rfl (zzld1 rfl uT36 (S72.rowc (i := 1) (e := k) (j := 0) rfl (by first | omega | (simp only [ls]; omega)) rfl rfl)) ?_)))
         refine zzwr rfl (run_lenT (C := U2) (vs := vr) (xss := tk) (k := k) (i := 2) rfl rfl rfl rfl rfl rfl rfl sl36 S72 rfl (by first | omega | (simp only [ls]; omega) | (rw [U3 _ _ _ _ (by first | omega | (simp only [List.length_set]; omega)), if_pos rfl]; simp only [List.length_set]; omega))) ?_
         refine zzmv 1 rfl (zzeT [0, 1, 5, 6, 8, 61, 62, 9, 10, 83, 84] rfl (zzbK ?_))
         refine U4 (fun mx_ ax_ wx_ => ∃ (e9 : Nat) (te : List (List Int)), mx_ = m - e9 ∧ Env 122 [(0, vrw), (1, .int .i64 p), (5, .int .i64 (out : Int)), (6, .pointer (some ⟨gcb, 0, none⟩)), (8, .int .i64 f), (61, .int .i64 (vr.length : Int)), (62, .int .i64 (k : Int)), (9, .int .i64 (k : Int)), (10, .int .i64 G), (83, .int .i64 ((ga tk k).length : Int)), (84, .int .i64 (e9 : Int))] ax_ ∧ SH wx_ M X [Rs.box gcb 3 [.int .i64 (c : Int)], Rs.row (cdV 36) vrw vr, Rs.tab U2 vr te] ∧ e9 ≤ m ∧ te.length = xss.length ∧ (∀ j, j < xss.length → j ≠ k → ga te j = ga tk j) ∧ (ga te k).length = m ∧ (∀ x, x < m → ga (ga te k) x = if x < e9 then Fx.elV p G (ga (ga tc k) x) (ga (ga tc out) x) else ga (ga tc k) x)) rfl ?_ ?_
         ·intro ax_ hax_
          refine ⟨_, ⟨0, tk, rfl, hax_.su rfl, S72.pick [0, 1, 2] [_, _, _] (by decide) ⟨rfl, rfl, rfl, trivial⟩, ?hq6f0, ?hq6f1, ?hq6f2, ?hq6f3, ?hq6f4⟩⟩
          case hq6f0 => omega
          case hq6f1 => exact hkl
          case hq6f2 => (intro j _ _; rfl)
          case hq6f3 => exact htkk
          case hq6f4 => (intro x hx; rw [if_neg (by omega), hkk2])
         ·rintro m3 a4 w72 ⟨e9, te, rfl, he4, S73, he9, hel, heo, her, heg⟩
          clear S72
          refine zziN he4 ?_
          clear he4 a4
          have hei : ga te out = ga tc out := by rw [heo out (by omega) (by omega)]; exact hko
          have hteo : (ga te out).length = m := by rw [hei]; exact hro
          have hv1 := fun h => hrk2 e9 h
          have hv2 := fun h => hrg e9 h
          have hv3 := heg e9
          refine zzsR (zzmv 1 rfl (zzeE (zztS ?_)))
          refine zzcD rfl (fun hb85 => ?_) (fun hb85 => ?_)
          ·refine zzsK (zznS [0, 1, 5, 6, 8, 61, 62, 9, 10, 83, 84] rfl (zzbK (zzsR (zzmv 2 rfl (zzeT [0, 1, 5, 6, 8, 61, 62, 9, 10, 83, 84, 11] rfl ?_)))))
           have hv4 := hv1 (by omega)
           have hv5 := hv2 (by omega)
           have hv6 := hv3 (by omega)
           rw [if_neg (by omega)] at hv6
           have hv7 := mulbd2 hGb hv5 (by omega)
           rw [← hei] at hv7
           have hv8 := Fx.tm_abs (p := p) (by omega) (ga (ga te k) e9 - G * ga (ga te out) e9)
           refine zzdW S73 30 ?_
           clear S73
           refine zzmW 28 [0, 1] rfl (zzlW 2 rfl (fun hZz Sz => Uc (i := 1) k rfl sl69 Sz.suf rfl) (zzlW 3 rfl (fun hZz Sz => zzld1 rfl uT36 (Sz.suf.rowc (i := 1) (e := k) (j := 0) rfl (by first | omega | (simp only [ls]; omega)) rfl rfl)) ?_))
           refine zzmW 23 [4, 5, 6] rfl (zzlW 7 rfl (fun hZz Sz => Uc (i := 1) k rfl sl69 Sz.suf rfl) (zzlW 8 rfl (fun hZz Sz => zzld1 rfl uT36 (Sz.suf.rowc (i := 1) (e := k) (j := 0) rfl (by first | omega | (simp only [ls]; omega)) rfl rfl)) ?_))
           refine zzmW 20 [9] rfl (zzlW 10 rfl (fun hZz Sz => Uz (C := U2) (vs := vr) (xss := te) (i := 2) k e9 rfl rfl rfl rfl sl36 Sz.suf rfl (by first | omega | (simp only [ls]; omega) | (rw [U3 _ _ _ _ (by first | omega | (simp only [List.length_set]; omega)), if_pos rfl]; simp only [List.length_set]; omega)) (by first | rfl | omega) (by first | omega | (simp only [ls]; omega) | (rw [U3 _ _ _ _ (by first | omega | (simp only [List.length_set]; omega)), if_pos rfl]; simp only [List.length_set]; omega))) ?_)
           refine zzlW 11 rfl (fun hZz Sz => zzld1 rfl uT3 (Sz.suf.tabc (i := 2) (k := k) (e := e9) (j := 0) rfl (by first | omega | (simp only [ls]; omega) | (rw [U3 _ _ _ _ (by first | omega | (simp only [List.length_set]; omega)), if_pos rfl]; simp only [List.length_set]; omega)) (by first | omega | (simp only [ls]; omega) | (rw [U3 _ _ _ _ (by first | omega | (simp only [List.length_set]; omega)), if_pos rfl]; simp only [List.length_set]; omega)) rfl rfl)) ?_
           refine zzmW 15 [12, 13, 14] rfl (zzlW 15 rfl (fun hZz Sz => Uc (i := 1) out rfl sl69 Sz.suf rfl) (zzlW 16 rfl (fun hZz Sz => zzld1 rfl uT36 (Sz.suf.rowc (i := 1) (e := out) (j := 0) rfl (by first | omega | (simp only [ls]; omega)) rfl rfl)) ?_))
           refine zzmW 12 [17] rfl (zzlW 18 rfl (fun hZz Sz => Uz (C := U2) (vs := vr) (xss := te) (i := 2) out e9 rfl rfl rfl rfl sl36 Sz.suf rfl (by first | omega | (simp only [ls]; omega) | (rw [U3 _ _ _ _ (by first | omega | (simp only [List.length_set]; omega)), if_pos rfl]; simp only [List.length_set]; omega)) (by first | rfl | omega) (by first | omega | (simp only [ls]; omega) | (rw [U3 _ _ _ _ (by first | omega | (simp only [List.length_set]; omega)), if_pos rfl]; simp only [List.length_set]; omega))) ?_)
           refine zzlW 19 rfl (fun hZz Sz => zzld1 rfl uT3 (Sz.suf.tabc (i := 2) (k := out) (e := e9) (j := 0) rfl (by first | omega | (simp only [ls]; omega) | (rw [U3 _ _ _ _ (by first | omega | (simp only [List.length_set]; omega)), if_pos rfl]; simp only [List.length_set]; omega)) (by first | omega | (simp only [ls]; omega) | (rw [U3 _ _ _ _ (by first | omega | (simp only [List.length_set]; omega)), if_pos rfl]; simp only [List.length_set]; omega)) rfl rfl)) ?_
           refine zzpW 20 rfl (run_mul rfl rfl rfl (by first | omega | (simp only [ls]; omega))) ?_
           refine zzpW 21 rfl (U1o rfl rfl rfl (by first | omega | (simp only [ls]; omega))) ?_
           refine zzmW 7 [22] rfl (zzpW 23 rfl (run_trem rfl rfl rfl (by omega)) ?_)
           refine zzmW 5 [24] rfl (zzpW 25 rfl (U1 rfl) (zzmW 3 [26] rfl (zzpW 27 rfl (run_trem rfl rfl rfl (by omega)) ?_)))
           refine zzlW 28 rfl (fun hZz Sz => Uz (C := U2) (vs := vr) (xss := te) (i := 2) k e9 rfl rfl rfl rfl sl36 Sz.suf rfl (by first | omega | (simp only [ls]; omega) | (rw [U3 _ _ _ _ (by first | omega | (simp only [List.length_set]; omega)), if_pos rfl]; simp only [List.length_set]; omega)) (by first | rfl | omega) (by first | omega | (simp only [ls]; omega) | (rw [U3 _ _ _ _ (by first | omega | (simp only [List.length_set]; omega)), if_pos rfl]; simp only [List.length_set]; omega))) ?_
           refine zzuW 29 rfl (fun w103 S104 => ((wo_storeT (C := U2) (vs := vr) (xss := te) (i := 2) (k := k) (e := e9) (j := 0) (us := [_]) (H' := [_, _, _]) (Int.tmod (((Int.tmod (((ga (ga te k) e9) - (G * (ga (ga te out) e9)))) (p)) + p)) (p)) rfl rfl S104 rfl (by first | omega | (simp only [ls]; omega) | (rw [U3 _ _ _ _ (by first | omega | (simp only [List.length_set]; omega)), if_pos rfl]; simp only [List.length_set]; omega)) (by first | omega | (simp only [ls]; omega) | (rw [U3 _ _ _ _ (by first | omega | (simp only [List.length_set]; omega)), if_pos rfl]; simp only [List.length_set]; omega)) rfl rfl rfl sz3 rfl rfl rfl rfl ?_)))
           intro w104 S105; clear S104
           refine zzturnW S105 ?_; clear S105
           change WA _ _ _ _ _ _ _ _ _ _ _ _ [_, _, _]
           refine zzeW (fun w105 S106 => (U8 (zznT [0, 1, 5, 6, 8, 61, 62, 9, 10, 83, 84] rfl (zzrG (zzwr rfl (U1 rfl) (zzmv 1 rfl (zzeE (Uf ?_))))))))
           intro ax_ hax_
           refine ⟨_, ?hq7m, ⟨e9 + 1, te.set k ((ga te k).set e9 (Int.tmod (((Int.tmod (((ga (ga te k) e9) - (G * (ga (ga te out) e9)))) (p)) + p)) (p))), rfl, hax_.su rfl, S106.pick [0, 1, 2] [_, _, _] (by decide) ⟨rfl, rfl, rfl, trivial⟩, ?hq7f0, ?hq7f1, ?hq7f2, ?hq7f3, ?hq7f4⟩⟩
           case hq7f0 => omega
           case hq7f1 => (rw [List.length_set]; exact hel)
           case hq7f2 => (intro j hj hk9; rw [U3 _ _ _ _ (by omega), if_neg (by omega)]; exact heo j hj hk9)
           case hq7f3 => (rw [U3 _ _ _ _ (by omega), if_pos rfl, List.length_set]; exact her)
           case hq7f4 => (intro x hx; rw [U3 _ _ _ _ (by omega), if_pos rfl, U3 _ _ _ _ (by omega)]; by_cases e : e9 = x; (subst e; rw [if_pos rfl, if_pos (by omega), hei, hv6]; rfl); (rw [if_neg e, heg x hx]; by_cases h2 : x < e9; (rw [if_pos h2, if_pos (by omega)]); (rw [if_neg h2, if_neg (by omega)])))
           case hq7m => omega
          ·refine zzxE rfl (U8 (zznT [0, 1, 5, 6, 8, 61, 62] rfl (zzrG (zzwr rfl (U1 rfl) (zzmv 1 rfl (zzeE (Uf ?_)))))))
           intro ax_ hax_
           refine ⟨_, ?hq8m, ⟨k + 1, te, rfl, hax_.su rfl, S73.pick [0, 1, 2] [_, _, _] (by decide) ⟨rfl, rfl, rfl, trivial⟩, ?hq8f0, ?hq8f1, ?hq8f2⟩⟩
           case hq8f0 => omega
           case hq8f1 => exact hel
           case hq8f2 => (intro j hj; by_cases e : j = k; (subst e; rw [if_pos (by omega)]; refine elR_row her (by omega) hG ?_; intro x hx; rw [heg x hx, if_pos (by omega)]); (rw [heo j hj e, hkg j hj]; by_cases h2 : j < k ∧ j ≠ out; (rw [if_pos h2, if_pos (by omega)]); (rw [if_neg h2, if_neg (by omega)])))
           case hq8m => omega
       ·refine zzxE rfl (zznT [0, 1, 5, 6] rfl (zzrG (zzmv 1 rfl (zzwr rfl (U1 rfl) (zzmv 1 rfl (zzeE (U8 (zznS [0, 1, 5, 6] rfl ?_))))))))
        refine zzsR (zzwr rfl (zzld1 rfl uT3 (S59.bc 0 rfl rfl)) (zzeT [0, 1, 5, 120] rfl (zzrG (zzwU rfl (Uk (l := [_]) rfl rfl rfl zr3 rfl S59 ?_)))))
        intro gb3 w106 S107; clear S59
        refine zzwU rfl (U1q 0 [_] [_] [_, _, _, _] rfl S107 rfl rfl sz3 rfl rfl ?_)
        intro w107 S108; clear S107
        refine zzeT [0, 1, 5, 6] rfl (zzrG (zzwr rfl (zzld1 rfl uT3 (S108.bc 0 rfl rfl)) (zzwr rfl (U1 rfl) (zzwU rfl (U1q 0 [_] [_] [_, _, _, _] rfl S108 rfl rfl sz3 rfl rfl ?_)))))
        intro w108 S109; clear S108
        refine zzeE (Uf ?_)
        intro ax_ hax_
        refine ⟨_, ?hq9m, ⟨c + 1, out + 1, vr, tk, _, rfl, hax_.su rfl, S109.pick [0, 2, 3] [_, _, _] (by decide) ⟨rfl, rfl, rfl, trivial⟩, ?hq9f0, ?hq9f1⟩⟩
        case hq9f0 => exact hF2.hit (by omega) (by omega) (by omega) hpv hinv hkl (fun j hj => by (rw [hkg j hj]; by_cases h9 : j = out; (rw [if_neg (by omega), if_pos h9]); (rw [if_pos (by omega), if_neg h9])))
        case hq9f1 => omega
        case hq9m => omega
   ·refine zzxE rfl (zznR [5] rfl (zzmv 2 rfl (zzeT [4] rfl (zzrT hC rfl ?_))))
    refine ⟨_, rfl, _, _, Hp.le_refl _, (S16.pick [1, 2] [_, _] (by decide) ⟨rfl, rfl, trivial⟩).bun, ?_⟩
    refine ⟨congrArg (Value.int .i64) (congrArg Nat.cast (hF.done hpI.1 hcm ?_)), rfl, _, _, rfl⟩
    omega
  ·refine zzmW 1 [5, 6, 7, 8, 9, 10] rfl (zzmW 0 [11] rfl (zzeW (fun w110 S111 => (zznT [0, 1, 5, 6, 23] rfl (zzcF (zzxE rfl (zznR [5] rfl (zzmv 2 rfl (zzeT [4] rfl ?_)))))))))
   refine zzrT hC rfl ?_
   refine ⟨_, rfl, _, _, Hp.le_refl _, (S111.pick [1, 2] [_, _] (by decide) ⟨rfl, rfl, trivial⟩).bun, ?_⟩
   refine ⟨congrArg (Value.int .i64) (congrArg Nat.cast (hF.done hpI.1 hcm ?_)), rfl, _, _, rfl⟩
   omega
end Go.Proofs.Ytkcighnochjlgaa
namespace Go.Proofs.Ytkcighnochjlgaa
open Go.ChangeShapes Go.WideShapes Go.ChangeAt Go.RowKit
noncomputable def Zb := Try.f149.body.getD .skip
set_option maxRecDepth 10000 in
theorem Head_q {w : World} {M : Hp} {X : Fr} (d : Dg) {gsh : Nat} {cA iA oA : Option Addr} {cc ic oc : Nat} (x : Da) (hsb : BxM (M.un X.h) gsh 114 [.slice cA d.crs.length cc, .int .i64 d.loops, .slice iA (tabL d false (4 * d.crs.length)).length ic, .slice oA (tabL d true (4 * d.crs.length)).length oc]) (hsc : RdA cdCr (M.un X.h) cA cc d.crs) (hsi : RdA cdPl (M.un X.h) iA ic (tabL d false (4 * d.crs.length))) (hso : RdA cdPl (M.un X.h) oA oc (tabL d true (4 * d.crs.length))) (hn : d.crs.length ≤ 16) (hab : Ue d = true) (hx : okD d x) (S : SH w M X []) : Cq Try.prog 149 [.pointer (some ⟨gsh, 0, none⟩), .agg [.int .i64 x.a, .bool x.b].toArray] w M X (fun u => u = .agg (plF (Un d x.a x.b)).toArray) := by
 unfold Cq
 obtain ⟨hE1, hE2, hE3, hE4, hE5⟩ := endD hab hx x.b
 have htl : ∀ b, (tabL d b (4 * d.crs.length)).length = 2 * d.crs.length + 1 := fun b => Uo d b _
 have htf := htl false
 have htt := htl true
 have hx1 := hx.1
 have hx2 := hx.2
 refine U7 (b := Zb) Try.func149 rfl Try.ntmps149 rfl (fun C hC => (zzwsk [0, 1] rfl (zzsR (zzwU rfl (Uv (l := [_, _]) rfl rfl rfl rfl rfl S ?_)))))
 intro gb1 w1 S1; clear S
 refine zzwU rfl (Uk (l := [_, _]) rfl rfl rfl zr196 rfl S1 ?_)
 intro gb2 w2 S2; clear S1
 refine zzeS [0, 3, 4] rfl (zzsR (zzwr rfl (zzfa rfl uT167 rfl ce4 nf4) (zzwr rfl (zzld1 rfl uT4 (S2.bc 1 rfl rfl)) (zzeT [0, 3, 4, 6] rfl ?_))))
 refine zzcN rfl (fun hb6 => ?_) (fun hb6 => ?_)
 ·refine zzsS (zzdW S2 9 ?_)
  clear S2
  refine zzmW 7 [0, 1] rfl (zzpW 2 rfl (zzfa rfl uT114 rfl ce112 nf112) (zzlW 3 rfl (fun hZz Sz => zzld1 rfl uT112 ((hsb.mono (Hp.U0 hZz Sz.mx)).cell Sz.um rfl)) (zzpW 4 rfl (zzfa rfl uT167 rfl ce3 nf3) (zzlW 5 rfl (fun hZz Sz => zzld1 rfl uT3 (Sz.suf.bc 1 rfl rfl)) (zzlW 6 rfl (fun hZz Sz => Ux x.a.toNat rfl sl112 (hso.mono (Hp.U0 hZz Sz.mx))) (zzlW 7 rfl (fun hZz Sz => Ut [_, _] rfl uT196 sz196 ((hso.mono (Hp.U0 hZz Sz.mx)).U1p Sz.um (e := x.a.toNat) (by first | omega | (simp only [ls]; omega)) (j := 0) ⟨rfl, rfl, trivial⟩)) ?_))))))
  refine zzuW 8 rfl (fun w12 S12 => ((U1q 0 [_, _] [_, _] [_, _] rfl S12 rfl rfl sz196 rfl rfl ?_)))
  intro w13 S13; clear S12
  refine zzturnW S13 ?_; clear S13
  change WA _ _ _ _ _ _ _ _ _ _ _ _ [_, _]
  refine zzeW (fun w14 S14 => (zznT [4] rfl (ws_ret hC [_] rfl rfl ⟨⟨_, rfl, U1k (us := [_, _]) uT196 rfl sz196 (S14.bs 0 rfl rfl)⟩, trivial⟩ ?_)))
  exact ⟨_, rfl, (S14.pick [] [] (by decide) trivial), (by rw [hb6] at hE3; show Value.agg (plF (ga (tabL d _ (4 * d.crs.length)) x.a.toNat)).toArray = _; rw [hE3, hb6])⟩
 ·refine zzsK (zznS [0, 3, 4] rfl (zzdW S2 9 ?_))
  clear S2
  refine zzmW 7 [0, 1] rfl (zzpW 2 rfl (zzfa rfl uT114 rfl ce112 nf112) (zzlW 3 rfl (fun hZz Sz => zzld1 rfl uT112 ((hsb.mono (Hp.U0 hZz Sz.mx)).cell Sz.um rfl)) (zzpW 4 rfl (zzfa rfl uT167 rfl ce3 nf3) (zzlW 5 rfl (fun hZz Sz => zzld1 rfl uT3 (Sz.suf.bc 1 rfl rfl)) (zzlW 6 rfl (fun hZz Sz => Ux x.a.toNat rfl sl112 (hsi.mono (Hp.U0 hZz Sz.mx))) (zzlW 7 rfl (fun hZz Sz => Ut [_, _] rfl uT196 sz196 ((hsi.mono (Hp.U0 hZz Sz.mx)).U1p Sz.um (e := x.a.toNat) (by first | omega | (simp only [ls]; omega)) (j := 0) ⟨rfl, rfl, trivial⟩)) ?_))))))
  refine zzuW 8 rfl (fun w24 S24 => ((U1q 0 [_, _] [_, _] [_, _] rfl S24 rfl rfl sz196 rfl rfl ?_)))
  intro w25 S25; clear S24
  refine zzturnW S25 ?_; clear S25
  change WA _ _ _ _ _ _ _ _ _ _ _ _ [_, _]
  refine zzeW (fun w26 S26 => (zznT [4] rfl (ws_ret hC [_] rfl rfl ⟨⟨_, rfl, U1k (us := [_, _]) uT196 rfl sz196 (S26.bs 0 rfl rfl)⟩, trivial⟩ ?_)))
  exact ⟨_, rfl, (S26.pick [] [] (by decide) trivial), (by rw [hb6] at hE3; show Value.agg (plF (ga (tabL d _ (4 * d.crs.length)) x.a.toNat)).toArray = _; rw [hE3, hb6])⟩
noncomputable def Zc := Try.f157.body.getD .skip
set_option maxRecDepth 10000 in
theorem Left_q {w : World} {M : Hp} {X : Fr} (d : Dg) {gsh : Nat} {cA iA oA : Option Addr} {cc ic oc : Nat} (x : Da) (hsb : BxM (M.un X.h) gsh 114 [.slice cA d.crs.length cc, .int .i64 d.loops, .slice iA (tabL d false (4 * d.crs.length)).length ic, .slice oA (tabL d true (4 * d.crs.length)).length oc]) (hsc : RdA cdCr (M.un X.h) cA cc d.crs) (hsi : RdA cdPl (M.un X.h) iA ic (tabL d false (4 * d.crs.length))) (hso : RdA cdPl (M.un X.h) oA oc (tabL d true (4 * d.crs.length))) (hn : d.crs.length ≤ 16) (hab : Ue d = true) (hx : okD d x) (S : SH w M X []) : Cq Try.prog 157 [.pointer (some ⟨gsh, 0, none⟩), .agg [.int .i64 x.a, .bool x.b].toArray] w M X (fun u => u = .agg (daF (leftD d x)).toArray) := by
 unfold Cq
 obtain ⟨hE1, hE2, hE3, hE4, hE5⟩ := endD hab hx x.b
 have htl : ∀ b, (tabL d b (4 * d.crs.length)).length = 2 * d.crs.length + 1 := fun b => Uo d b _
 have htf := htl false
 have htt := htl true
 have hx1 := hx.1
 have hx2 := hx.2
 refine U7 (b := Zc) Try.func157 rfl Try.ntmps157 rfl (fun C hC => (zzwsk [0, 1] rfl (zzsR (zzwU rfl (Uv (l := [_, _]) rfl rfl rfl rfl rfl S ?_)))))
 intro gb1 w1 S1; clear S
 refine zzwU rfl (Uk (l := [_, _]) rfl rfl rfl zr167 rfl S1 ?_)
 intro gb2 w2 S2; clear S1
 refine zzeR [0, 3, 4] rfl (zzmv 1 rfl (zzwr rfl (Ut [_, _] rfl uT167 sz167 (S2.bs 1 rfl rfl)) (zzwU rfl (U26 rfl rfl rfl rfl rfl rfl rfl cf149 S2 (Head_q d x (hsb.mono S2.Uj) (hsc.mono S2.Uj) (hsi.mono S2.Uj) (hso.mono S2.Uj) (by first | assumption | omega) hab (by first | assumption | omega) S2.lend) ?_))))
 rintro _ w3 S3 rfl; clear S2
 refine zzwU rfl (Uk (l := [_, _]) rfl rfl rfl zr196 rfl S3 ?_)
 intro gb3 w4 S4; clear S3
 refine zzwU rfl (U1q 0 [_, _] [_, _] [_, _, _] rfl S4 rfl rfl sz196 rfl rfl ?_)
 intro w5 S5; clear S4
 refine zzeR [0, 4, 5] rfl (zzwr rfl (zzfa rfl uT196 rfl ce3 nf3) (zzwr rfl (zzld1 rfl uT3 (S5.bc 0 rfl rfl)) (zzwr rfl (zzfa rfl uT196 rfl ce3 nf3) (zzwr rfl (zzld1 rfl uT3 (S5.bc 0 rfl rfl)) (zzwr rfl (U1 rfl) (zzwr rfl (U1o rfl rfl rfl (by first | omega | (simp only [ls]; omega))) ?_))))))
 refine zzwr rfl (run_rem rfl rfl rfl (by first | omega | (simp only [ls]; omega))) ?_
 refine wl_eq 16 (.int .i64 ((((Un d x.a x.b).2 + 3) % 4 : Nat) : Int)) rfl (int_eq (by omega)) ?_
 have hlt4 : ((Un d x.a x.b).2 + 3) % 4 < 4 := Nat.mod_lt _ (by decide)
 refine zzwr rfl (run_build (l := [_, _]) rfl rfl st196 rfl rfl) (zzwU rfl (Uk (l := [_, _]) rfl rfl rfl zr196 rfl S5 ?_))
 intro gb4 w6 S6; clear S5
 refine zzwU rfl (U1q 0 [_, _] [_, _] [_, _, _, _] rfl S6 rfl rfl sz196 rfl rfl ?_)
 intro w7 S7; clear S6
 refine zzeS [0, 4, 6] rfl (zzdW S7 17 ?_)
 clear S7
 refine zzmW 16 [0] rfl (zzlW 1 rfl (fun hZz Sz => Ut [_, _] rfl uT196 sz196 (Sz.suf.bs 0 rfl rfl)) (zzyW 2 rfl (fun hZz Sz => U1j rfl rfl rfl rfl rfl cf164 Sz (At_q d ((Un d x.a x.b).1) (((Un d x.a x.b).2 + 3) % 4) ((hsb.mono (Hp.U0 hZz Sz.mx)).mono Sz.Uj) ((hsc.mono (Hp.U0 hZz Sz.mx)).mono Sz.Uj) ((hsi.mono (Hp.U0 hZz Sz.mx)).mono Sz.Uj) ((hso.mono (Hp.U0 hZz Sz.mx)).mono Sz.Uj) (by omega) (by omega) Sz.lend)) ?_))
 refine zzmW 12 [3, 4] rfl (zzpW 5 rfl (zzfa rfl uT114 rfl ce51 nf51) (zzpW 6 rfl (zzfa rfl uT51 rfl ce49 nf49) (zzlW 7 rfl (fun hZz Sz => zzld1 rfl uT49 ((hsb.mono (Hp.U0 hZz Sz.mx)).cell Sz.um rfl)) (zzpW 8 rfl (zzfa rfl uT196 rfl ce3 nf3) (zzlW 9 rfl (fun hZz Sz => zzld1 rfl uT3 (Sz.suf.bc 0 rfl rfl)) (zzlW 10 rfl (fun hZz Sz => Ux ((Un d x.a x.b).1) rfl sl49 (hsc.mono (Hp.U0 hZz Sz.mx))) (zzlW 11 rfl (fun hZz Sz => Ut [_, _, _, _, _] rfl uT111 sz111 ((hsc.mono (Hp.U0 hZz Sz.mx)).U1p Sz.um (e := (Un d x.a x.b).1) (by first | omega | (simp only [ls]; omega)) (j := 0) ⟨rfl, rfl, rfl, rfl, rfl, trivial⟩)) ?_)))))))
 refine zzpW 12 rfl (zzfa rfl uT196 rfl ce3 nf3) (zzlW 13 rfl (fun hZz Sz => zzld1 rfl uT3 (Sz.suf.bc 0 rfl rfl)) (zzyW 14 rfl (fun hZz Sz => U1j rfl rfl rfl rfl rfl cf159 Sz (Comes_q (ga d.crs ((Un d x.a x.b).1)) (((Un d x.a x.b).2 + 3) % 4) (by omega) Sz.lend)) ?_))
 refine zzlW 15 rfl (fun hZz Sz => run_build (l := [_, _]) rfl rfl st167 rfl rfl) (zzuW 16 rfl (fun w25 S25 => ((U1q 2 [_, _] [_, _] [_, _, _, _] rfl S25 rfl rfl sz167 rfl rfl ?_))))
 intro w26 S26; clear S25
 refine zzturnW S26 ?_; clear S26
 change WA _ _ _ _ _ _ _ _ _ _ _ _ [_, _, _, _]
 refine zzeW (fun w27 S27 => (zznT [4] rfl (ws_ret hC [_] rfl rfl ⟨⟨_, rfl, U1k (us := [_, _]) uT167 rfl sz167 (S27.bs 2 rfl rfl)⟩, trivial⟩ ?_)))
 exact ⟨_, rfl, (S27.pick [] [] (by decide) trivial), rfl⟩
noncomputable def Zd := Try.f156.body.getD .skip
set_option maxRecDepth 10000 in
theorem Other_q {w : World} {M : Hp} {X : Fr} (d : Dg) {gsh : Nat} {cA iA oA : Option Addr} {cc ic oc : Nat} (c k : Nat) (hsb : BxM (M.un X.h) gsh 114 [.slice cA d.crs.length cc, .int .i64 d.loops, .slice iA (tabL d false (4 * d.crs.length)).length ic, .slice oA (tabL d true (4 * d.crs.length)).length oc]) (hsc : RdA cdCr (M.un X.h) cA cc d.crs) (hsi : RdA cdPl (M.un X.h) iA ic (tabL d false (4 * d.crs.length))) (hso : RdA cdPl (M.un X.h) oA oc (tabL d true (4 * d.crs.length))) (hn : d.crs.length ≤ 16) (hab : Ue d = true) (hc : c < d.crs.length) (hk : k < 4) (S : SH w M X []) : Cq Try.prog 156 [.pointer (some ⟨gsh, 0, none⟩), .agg [.int .i64 (c : Int), .int .i64 (k : Int)].toArray] w M X (fun u => u = .agg (plF (Un d (Uu d c k) (Ui d c k))).toArray) := by
 unfold Cq
 have hx := Uq hab hc hk
 have hx1 := hx.1
 have hx2 := hx.2
 obtain ⟨hE1, hE2, hE3, hE4, hE5⟩ := endD hab hx (Ui d c k)
 have htl : ∀ b, (tabL d b (4 * d.crs.length)).length = 2 * d.crs.length + 1 := fun b => Uo d b _
 have htf := htl false
 have htt := htl true
 refine U7 (b := Zd) Try.func156 rfl Try.ntmps156 rfl (fun C hC => (zzwsk [0, 1] rfl (zzsR (zzwU rfl (Uv (l := [_, _]) rfl rfl rfl rfl rfl S ?_)))))
 intro gb1 w1 S1; clear S
 refine zzwU rfl (Uk (l := [_, _]) rfl rfl rfl zr196 rfl S1 ?_)
 intro gb2 w2 S2; clear S1
 refine zzeR [0, 3, 4] rfl (zzmv 1 rfl (zzwr rfl (Ut [_, _] rfl uT196 sz196 (S2.bs 1 rfl rfl)) (zzwU rfl (U26 rfl rfl rfl rfl rfl rfl rfl cf164 S2 (At_q d c k (hsb.mono S2.Uj) (hsc.mono S2.Uj) (hsi.mono S2.Uj) (hso.mono S2.Uj) (by omega) (by omega) S2.lend) ?_))))
 rintro _ w3 S3 rfl; clear S2
 refine zzmv 1 rfl (zzeS [0, 3, 4, 5] rfl (zzsS (zzdW S3 12 ?_)))
 clear S3
 refine zzmW 10 [0, 1] rfl (zzpW 2 rfl (zzfa rfl uT114 rfl ce51 nf51) (zzpW 3 rfl (zzfa rfl uT51 rfl ce49 nf49) (zzlW 4 rfl (fun hZz Sz => zzld1 rfl uT49 ((hsb.mono (Hp.U0 hZz Sz.mx)).cell Sz.um rfl)) (zzpW 5 rfl (zzfa rfl uT196 rfl ce3 nf3) (zzlW 6 rfl (fun hZz Sz => zzld1 rfl uT3 (Sz.suf.bc 1 rfl rfl)) (zzlW 7 rfl (fun hZz Sz => Ux c rfl sl49 (hsc.mono (Hp.U0 hZz Sz.mx))) (zzlW 8 rfl (fun hZz Sz => Ut [_, _, _, _, _] rfl uT111 sz111 ((hsc.mono (Hp.U0 hZz Sz.mx)).U1p Sz.um (e := c) (by first | omega | (simp only [ls]; omega)) (j := 0) ⟨rfl, rfl, rfl, rfl, rfl, trivial⟩)) ?_)))))))
 refine zzpW 9 rfl (zzfa rfl uT196 rfl ce3 nf3) (zzlW 10 rfl (fun hZz Sz => zzld1 rfl uT3 (Sz.suf.bc 1 rfl rfl)) (zzyW 11 rfl (fun hZz Sz => U1j rfl rfl rfl rfl rfl cf159 Sz (Comes_q (ga d.crs c) k (by omega) Sz.lend)) ?_))
 refine zzeW (fun w16 S16 => (zznT [0, 4, 5, 20] rfl ?_))
 refine zzcN rfl (fun hb20 => ?_) (fun hb20 => ?_)
 ·refine zzsR (zzmv 2 rfl (zzwr rfl (zzfa rfl uT114 rfl ce112 nf112) (zzwr rfl (zzld1 rfl uT112 (hsb.cell S16.um rfl)) (zzmv 1 rfl (zzwr rfl (Ux ((Uu d c k).toNat) rfl sl112 hso) (zzwr rfl (Ut [_, _] rfl uT196 sz196 (hso.U1p S16.um (e := (Uu d c k).toNat) (by first | omega | (simp only [ls]; omega)) (j := 0) ⟨rfl, rfl, trivial⟩)) ?_))))))
  refine zzwU rfl (U1q 0 [_, _] [_, _] [_, _] rfl S16 rfl rfl sz196 rfl rfl ?_)
  intro w17 S17; clear S16
  refine zzeT [4] rfl (ws_ret hC [_] rfl rfl ⟨⟨_, rfl, U1k (us := [_, _]) uT196 rfl sz196 (S17.bs 0 rfl rfl)⟩, trivial⟩ ?_)
  exact ⟨_, rfl, (S17.pick [] [] (by decide) trivial), (by have hb9 : Ui d c k = _ := hb20; rw [hb9] at hE3 ⊢; show Value.agg (plF (ga (tabL d _ (4 * d.crs.length)) (Uu d c k).toNat)).toArray = _; rw [hE3])⟩
 ·refine zzsK (zznR [0, 4, 5] rfl (zzmv 2 rfl (zzwr rfl (zzfa rfl uT114 rfl ce112 nf112) (zzwr rfl (zzld1 rfl uT112 (hsb.cell S16.um rfl)) (zzmv 1 rfl (zzwr rfl (Ux ((Uu d c k).toNat) rfl sl112 hsi) (zzwr rfl (Ut [_, _] rfl uT196 sz196 (hsi.U1p S16.um (e := (Uu d c k).toNat) (by first | omega | (simp only [ls]; omega)) (j := 0) ⟨rfl, rfl, trivial⟩)) ?_)))))))
  refine zzwU rfl (U1q 0 [_, _] [_, _] [_, _] rfl S16 rfl rfl sz196 rfl rfl ?_)
  intro w18 S18; clear S16
  refine zzeT [4] rfl (ws_ret hC [_] rfl rfl ⟨⟨_, rfl, U1k (us := [_, _]) uT196 rfl sz196 (S18.bs 0 rfl rfl)⟩, trivial⟩ ?_)
  exact ⟨_, rfl, (S18.pick [] [] (by decide) trivial), (by have hb9 : Ui d c k = _ := hb20; rw [hb9] at hE3 ⊢; show Value.agg (plF (ga (tabL d _ (4 * d.crs.length)) (Uu d c k).toNat)).toArray = _; rw [hE3])⟩
end Go.Proofs.Ytkcighnochjlgaa
