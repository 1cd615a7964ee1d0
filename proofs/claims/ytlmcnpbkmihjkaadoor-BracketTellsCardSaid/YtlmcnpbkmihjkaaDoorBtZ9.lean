/- Part 9 of the proof of the law BracketTells: the walks through its functions and the plain laws that they need. -/
import Derived.Test.YtlmcnpbkmihjkaaDoorBtZ8
set_option linter.unusedSimpArgs false
set_option linter.unusedVariables false
namespace Go.Proofs.YtlmcnpbkmihjkaaDoor
open Go.ChangeShapes Go.WideShapes Go.ChangeAt Go.RowKit
def sumP (f : Nat → Pol) : Nat → Pol
 | 0 => Pol.o
 | n + 1 => sumP f n + f n
theorem sumP_congr {f g : Nat → Pol} {n : Nat} (h : ∀ x, x < n → f x = g x) : sumP f n = sumP g n := by
 induction n with
 | zero => rfl
 | succ n ih => rw [sumP, sumP, ih (fun x hx => h x (by omega)), h n (by omega)]
theorem sumP_zero {f : Nat → Pol} {n : Nat} (h : ∀ x, x < n → f x = Pol.o) : sumP f n = Pol.o := by
 induction n with
 | zero => rfl
 | succ n ih => rw [sumP, ih (fun x hx => h x (by omega)), h n (by omega), Pol.add_zero]
/-- One place more. -/
theorem sumP_upd {f g : Nat → Pol} {n k : Nat} {e : Pol} (hk : k < n) (h1 : g k = f k + e) (h : ∀ x, x < n → x ≠ k → g x = f x) : sumP g n = sumP f n + e := by
 induction n with
 | zero => omega
 | succ n ih =>
  rw [sumP, sumP]
  by_cases e2 : k = n
  ·subst e2
   rw [sumP_congr (fun x hx => h x (by omega) (by omega)), h1, Pol.add_assoc]
  ·rw [ih (by omega) (fun x hx hn => h x (by omega) hn), h n (by omega) (fun e3 => e2 e3.symm), Pol.add_assoc, Pol.add_comm e, ← Pol.add_assoc]
theorem sumP_front (f : Nat → Pol) (n : Nat) : sumP f (n + 1) = f 0 + sumP (fun x => f (x + 1)) n := by
 induction n with
 | zero => show Pol.o + f 0 = f 0 + Pol.o; rw [Pol.add_comm]
 | succ n ih => rw [sumP, ih, Pol.add_assoc]; rfl
/-- From behind. -/
theorem sumP_rev (f : Nat → Pol) (n : Nat) : sumP f n = sumP (fun x => f (n - 1 - x)) n := by
 induction n generalizing f with
 | zero => rfl
 | succ n ih =>
  rw [sumP_front f n, ih, sumP, Pol.add_comm]
  have e1 : f (n + 1 - 1 - n) = f 0 := congrArg f (by omega)
  rw [e1]
  refine congrArg (fun z => z + f 0) (sumP_congr fun x hx => ?_)
  exact congrArg f (by omega)
def dlt : Pol := mk [(2, -1), (-2, -1)]
def dlp : Nat → Pol
 | 0 => Pol.i
 | k + 1 => dlp k * dlt
def FoS (N T : Nat) (ws : List Int) (c : Nat) : Prop := ∃ (cls : List Int) (r h : Nat → Nat), cls.length = N ∧ RootF cls N r h ∧ SameC N r ws ∧ rtC cls N + c = T ∧ ∀ x, 1 ≤ x → x < N → 1 ≤ r x
theorem FoS.step {N T : Nat} {ws : List Int} {c : Nat} (H : FoS N T ws c) {a b : Nat} (ha : 1 ≤ a ∧ a < N) (hb : 1 ≤ b ∧ b < N) : FoS N T (mgW ws a b) (c + mgC ws a b) := by
 obtain ⟨cls, r, h, hl, hR, hS, hc, hp⟩ := H
 by_cases e : r a = r b
 ·obtain ⟨e1, e2⟩ := hS.none_ ha.2 hb.2 e
  rw [e1, e2]
  exact ⟨cls, r, h, hl, hR, hS, hc, hp⟩
 ·have e2 := hS.one ha.2 hb.2 e
  rw [e2]
  obtain ⟨_, _, _, _, a5, a6⟩ := hR.2 a ha.2
  have hset := rtC_set (cls := cls) (p := r a) (v := ((r b : Nat) : Int)) (by omega) (hp a ha.1 ha.2) a6 (by rw [Int.toNat_natCast]; exact fun e3 => e e3.symm) N
  rw [if_pos a5] at hset
  refine ⟨_, _, _, by rw [List.length_set]; exact hl, hR.put ha.2 hb.2 e, hS.put ha.2 hb.2 e, by omega, fun x hx hN => ?_⟩
  show 1 ≤ if r x = r a then r b else r x
  split
  ·exact hp b hb.1 hb.2
  ·exact hp x hx hN
theorem FoS.start (d : Dg) : FoS (2 * d.crs.length + 1) (2 * d.crs.length) (idW d) 0 := by
 have hl : (idW d).length = 2 * d.crs.length + 1 := iniW_len _ _
 have hg : ∀ x, x < 2 * d.crs.length + 1 → ga (idW d) x = (x : Int) := fun x hx => iniW_ga _ _ (Nat.le_refl _) x hx
 exact ⟨idW d, _, _, hl, RootF.id_ (by omega) hg, SameC.id_ d, by rw [rtC_id _ hg]; omega, fun x hx _ => hx⟩
theorem prB_bd {d : Dg} (hab : arcsB d = true) {k : Nat} (hk : k < d.crs.length) (bit : Nat) : ∃ a b c e : Nat, prB (ga d.crs k) bit = [(a, b), (c, e)] ∧ (1 ≤ a ∧ a < 2 * d.crs.length + 1) ∧ (1 ≤ b ∧ b < 2 * d.crs.length + 1) ∧ (1 ≤ c ∧ c < 2 * d.crs.length + 1) ∧ (1 ≤ e ∧ e < 2 * d.crs.length + 1) := by
 have ha : 1 ≤ (ga d.crs k).a ∧ (ga d.crs k).a ≤ 2 * (d.crs.length : Int) := arcAt_bd hab hk (k := 0) (by omega)
 have hb : 1 ≤ (ga d.crs k).b ∧ (ga d.crs k).b ≤ 2 * (d.crs.length : Int) := arcAt_bd hab hk (k := 1) (by omega)
 have hc : 1 ≤ (ga d.crs k).c ∧ (ga d.crs k).c ≤ 2 * (d.crs.length : Int) := arcAt_bd hab hk (k := 2) (by omega)
 have hd : 1 ≤ (ga d.crs k).d ∧ (ga d.crs k).d ≤ 2 * (d.crs.length : Int) := arcAt_bd hab hk (k := 3) (by omega)
 unfold prB
 split
 ·exact ⟨_, _, _, _, rfl, by omega, by omega, by omega, by omega⟩
 ·exact ⟨_, _, _, _, rfl, by omega, by omega, by omega, by omega⟩
theorem FoS.all {d : Dg} (hab : arcsB d = true) (f : Nat → Nat) : ∀ k, k ≤ d.crs.length → FoS (2 * d.crs.length + 1) (2 * d.crs.length) (rnW (prsF d f k) (idW d)) (cmF d f k) := by
 intro k
 induction k with
 | zero => intro _; exact FoS.start d
 | succ k ih =>
  intro hk
  obtain ⟨a, b, c, e, hp, ha, hb, hc, he⟩ := prB_bd hab (show k < d.crs.length by omega) (f k)
  have h1 := ((ih (by omega)).step ha hb).step hc he
  have e1 : prsF d f (k + 1) = prsF d f k ++ [(a, b), (c, e)] := by rw [prsF, hp]
  unfold cmF
  rw [e1, rnW_app, rnC_app]
  exact h1
theorem rngF_pos {d : Dg} (hab : arcsB d = true) (hl : 0 ≤ d.loops) (hne : ¬ (d.crs.length = 0 ∧ d.loops = 0)) (f : Nat → Nat) : 1 ≤ rngF d f := by
 have hle := cmF_le d f d.crs.length
 unfold rngF
 by_cases h0 : d.crs.length = 0
 ·omega
 ·obtain ⟨cls, r, h, hlen, hR, hS, hc, hp⟩ := FoS.all hab f d.crs.length (Nat.le_refl _)
  obtain ⟨_, _, _, _, a5, a6⟩ := hR.2 1 (by omega)
  have := rtC_pos a5 (hp 1 (Nat.le_refl _) (by omega)) a6
  omega
theorem rngF_le (d : Dg) (f : Nat → Nat) : rngF d f ≤ 2 * (d.crs.length : Int) + d.loops := by unfold rngF; omega
theorem bitN_flip {n s k : Nat} (hs : s < 2 ^ n) (hk : k < n) : bitN (2 ^ n - 1 - s) k = flipN s k := by
 unfold flipN bitN
 rw [← Nat.toNat_testBit, ← Nat.toNat_testBit, show 2 ^ n - 1 - s = 2 ^ n - (s + 1) by omega, Nat.testBit_two_pow_sub_succ hs]
 simp only [hk, decide_true, Bool.true_and]
 cases s.testBit k <;> rfl
theorem prsF_congr {d : Dg} {f g : Nat → Nat} {k : Nat} (h : ∀ x, x < k → f x = g x) : prsF d f k = prsF d g k := by
 induction k with
 | zero => rfl
 | succ k ih => rw [prsF, prsF, ih (fun x hx => h x (by omega)), h k (by omega)]
theorem rngF_congr {d : Dg} {f g : Nat → Nat} (h : ∀ x, x < d.crs.length → f x = g x) : rngF d f = rngF d g := by
 unfold rngF cmF; rw [prsF_congr h]
/-- The exponent of a state, as the document counts it. -/
def expN (s : Nat) : Nat → Int
 | 0 => 0
 | k + 1 => if bitN s k = 1 then expN s k + 1 else expN s k - 1
theorem expN_bd (s k : Nat) : -(k : Int) ≤ expN s k ∧ expN s k ≤ k := by
 induction k with
 | zero => exact ⟨Int.le_refl _, Int.le_refl _⟩
 | succ k ih => rw [expN]; split <;> omega
end Go.Proofs.YtlmcnpbkmihjkaaDoor
namespace Go.Proofs.YtlmcnpbkmihjkaaDoor
open Go.ChangeShapes Go.WideShapes Go.ChangeAt Go.RowKit
/-- Few crossings: what forbids it. -/
def errK (d : Dg) (m : Nat) : Int := if errO d = 0 then (if m < d.crs.length then 2 else 0) else errO d
theorem errK_ok {d : Dg} {m : Nat} (h : errK d m = 0) : errO d = 0 ∧ d.crs.length ≤ m := by
 unfold errK at h
 split at h
 ·split at h
  ·cases h
  ·exact ⟨by assumption, by omega⟩
 ·exact absurd h (by assumption)
def OpenF (m : Nat) (d : Dg) (v : Value) (N : Hp) : Prop :=
 (errK d m ≠ 0 ∧ v = .tuple [.pointer none, .int .i64 (errK d m)].toArray) ∨
 (errK d m = 0 ∧ ∃ g cA iA oA cc ic oc, v = .tuple [.pointer (some ⟨g, 0, none⟩), .int .i64 0].toArray ∧ ShM N d g cA iA oA cc ic oc)
noncomputable def BOpen_n0 : Code := Tryd.f11.body.getD .skip
noncomputable def BOpen_n1 : Code := cL BOpen_n0
noncomputable def BOpen_n2 : Code := cR BOpen_n0
noncomputable def BOpen_n3 : Code := cL BOpen_n2
noncomputable def BOpen_n4 : Code := cR BOpen_n2
noncomputable def BOpen_n5 : Code := cL BOpen_n4
noncomputable def BOpen_n6 : Code := cR BOpen_n4
noncomputable def BOpen_n7 : Code := cL BOpen_n5
noncomputable def BOpen_n8 : Code := cL BOpen_n7
noncomputable def BOpen_n9 : Code := cR BOpen_n7
noncomputable def BOpen_n10 : Code := cL BOpen_n9
noncomputable def BOpen_n11 : Code := cR BOpen_n9
noncomputable def BOpen_n12 : Code := cL BOpen_n10
noncomputable def BOpen_n13 : Code := cR BOpen_n10
noncomputable def BOpen_n14 : Code := cL BOpen_n11
noncomputable def BOpen_n15 : Code := cR BOpen_n11
noncomputable def BOpen_n16 : Code := cL BOpen_n15
noncomputable def BOpen_n17 : Code := cR BOpen_n15
noncomputable def BOpen_n18 : Code := cL BOpen_n16
noncomputable def BOpen_n19 : Code := cR BOpen_n16
noncomputable def BOpen_n20 : Code := cL BOpen_n6
noncomputable def BOpen_n21 : Code := cR BOpen_n6
set_option maxRecDepth 10000 in
theorem BOpen_t {w : World} {M : Hp} {X : Fr} (d : Dg) {dcrsA : Option Addr} {dcrsc : Nat} (hdcrs : RdA cdCr (M.un X.h) dcrsA dcrsc d.crs) (S : SH w M X []) : Ct Tryd.prog 11 [.agg [.slice dcrsA d.crs.length dcrsc, .int .i64 d.loops].toArray] w M X (OpenF 12 d) := by
 unfold Ct
 have rmhdcrs : d.crs.length * 40 ≤ 140737488355328 := hdcrs.room
 refine calls_in (b := BOpen_n0) Tryd.func11 rfl Tryd.ntmps11 rfl (fun C hC => ?_)
 refine ws_sub [(0, _)] ⟨rfl, trivial⟩ ?_
 refine ws_seqN BOpen_n1 BOpen_n2 rfl rfl rfl ?_
 refine ws_region rfl ?_
 refine wlo 0 1 rfl rfl rfl (wo_box (l := [_, _]) rfl rfl rfl rfl rfl S ?_)
 intro gb1 w1 S1; clear S
 refine wla 1 2 rfl rfl rfl rfl rfl rfl rfl ?_
 refine wla 2 3 rfl rfl rfl rfl rfl rfl rfl ?_
 refine wl_end rfl ?_
 refine nm_sub [(1, _)] ⟨rfl, trivial⟩ ?_
 refine nm_thn ?_
 refine ws_seqN BOpen_n3 BOpen_n4 rfl rfl rfl ?_
 refine ws_region rfl ?_
 refine wlo 0 1 rfl rfl rfl (wo_run rfl rfl (run_loadN (us := [_, _]) rfl rfl Tryd.underlying24 rfl sz24 (S1.boxcs (i := 0) rfl ⟨rfl, rfl, trivial⟩)) ?_)
 refine wlo 1 2 rfl rfl rfl (wo_ct rfl rfl rfl rfl rfl rfl rfl cf21 S1 (Open_t d (hdcrs.mono S1.un_XH) S1.lend) ?_)
 intro vw2 w2 M1 hle1 S2 hRw2; clear S1
 replace hdcrs := hdcrs.mono (Hp.un_mono hle1 S2.mx)
 rcases hRw2 with ⟨hopn8, rfl⟩ | ⟨hopn8, g1, cA8, iA8, oA8, cc8, ic8, oc8, rfl, hsb8, hsc8, hsi8, hso8⟩
 ·refine wlm 2 3 rfl rfl rfl rfl rfl rfl rfl ?_
  refine wlo 3 4 rfl rfl rfl (wo_run rfl rfl (run_extract rfl rfl rfl) ?_)
  refine wlo 4 5 rfl rfl rfl (wo_run rfl rfl (run_extract rfl rfl rfl) ?_)
  refine wla 5 6 rfl rfl rfl rfl rfl rfl rfl ?_
  refine wla 6 7 rfl rfl rfl rfl rfl rfl rfl ?_
  refine wl_end rfl ?_
  refine nm_sub [(4, _), (5, _)] ⟨rfl, rfl, trivial⟩ ?_
  refine nm_thn ?_
  refine ws_seqN BOpen_n5 BOpen_n6 rfl rfl rfl ?_
  refine ws_blockN BOpen_n7 0 rfl rfl rfl ?_
  refine ws_seqN BOpen_n8 BOpen_n9 rfl rfl rfl ?_
  refine ws_region rfl ?_
  refine wlm 0 1 rfl rfl rfl rfl rfl rfl rfl ?_
  refine wlo 1 2 rfl rfl rfl (wo_run rfl rfl (run_neq rfl rfl rfl) ?_)
  refine wla 2 3 rfl rfl rfl rfl rfl rfl rfl ?_
  refine wl_end rfl ?_
  refine nm_sub [(4, _), (5, _), (11, _)] ⟨rfl, rfl, rfl, trivial⟩ ?_
  refine nm_thn ?_
  refine ws_condN BOpen_n10 BOpen_n11 rfl rfl rfl rfl (fun hb11 => ?_) (fun hb11 => ?_)
  ·replace hb11 := of_decide_eq_true hb11
   refine ws_seqN BOpen_n12 BOpen_n13 rfl rfl rfl ?_
   refine ws_region rfl ?_
   refine wlm 0 1 rfl rfl rfl rfl rfl rfl rfl ?_
   refine wla 1 2 rfl rfl rfl rfl rfl rfl rfl ?_
   refine wla 2 3 rfl rfl rfl rfl rfl rfl rfl ?_
   refine wl_end rfl ?_
   refine nm_sub [(2, _), (3, _)] ⟨rfl, rfl, trivial⟩ ?_
   refine nm_thn ?_
   refine ws_ret hC [_, _] rfl rfl ⟨rfl, rfl, trivial⟩ ?_
   refine ⟨_, rfl, _, hle1, (S2.pick [] [] (by decide) trivial), ?_⟩
   have e0 : errK d 12 = errO d := by unfold errK; rw [if_neg hopn8]
   exact .inl ⟨by rw [e0]; exact hopn8, by rw [e0]; rfl⟩
  ·replace hb11 := of_decide_eq_false hb11
   exfalso; omega
 ·obtain ⟨hmo, hpl⟩ := errO_ok hopn8
  obtain ⟨hn, hab, hlo0, hlo1⟩ := mayO hmo
  refine wlm 2 3 rfl rfl rfl rfl rfl rfl rfl ?_
  refine wlo 3 4 rfl rfl rfl (wo_run rfl rfl (run_extract rfl rfl rfl) ?_)
  refine wlo 4 5 rfl rfl rfl (wo_run rfl rfl (run_extract rfl rfl rfl) ?_)
  refine wla 5 6 rfl rfl rfl rfl rfl rfl rfl ?_
  refine wla 6 7 rfl rfl rfl rfl rfl rfl rfl ?_
  refine wl_end rfl ?_
  refine nm_sub [(4, _), (5, _)] ⟨rfl, rfl, trivial⟩ ?_
  refine nm_thn ?_
  refine ws_seqN BOpen_n5 BOpen_n6 rfl rfl rfl ?_
  refine ws_blockN BOpen_n7 0 rfl rfl rfl ?_
  refine ws_seqN BOpen_n8 BOpen_n9 rfl rfl rfl ?_
  refine ws_region rfl ?_
  refine wlm 0 1 rfl rfl rfl rfl rfl rfl rfl ?_
  refine wlo 1 2 rfl rfl rfl (wo_run rfl rfl (run_neq rfl rfl rfl) ?_)
  refine wla 2 3 rfl rfl rfl rfl rfl rfl rfl ?_
  refine wl_end rfl ?_
  refine nm_sub [(4, _), (5, _), (11, _)] ⟨rfl, rfl, rfl, trivial⟩ ?_
  refine nm_thn ?_
  refine ws_condN BOpen_n10 BOpen_n11 rfl rfl rfl rfl (fun hb11 => ?_) (fun hb11 => ?_)
  ·replace hb11 := of_decide_eq_true hb11
   exfalso; omega
  ·replace hb11 := of_decide_eq_false hb11
   refine ws_seqN BOpen_n14 BOpen_n15 rfl rfl rfl ?_
   refine ws_region rfl ?_
   refine wlm 0 1 rfl rfl rfl rfl rfl rfl rfl ?_
   refine wlo 1 2 rfl rfl rfl (wo_run rfl rfl (run_nilCheck rfl rfl) ?_)
   refine wlo 2 3 rfl rfl rfl (wo_run rfl rfl (run_fieldAddr rfl rfl Tryd.underlying53 rfl (ce24) (nf24)) ?_)
   refine wlo 3 4 rfl rfl rfl (wo_run rfl rfl (run_fieldAddr rfl rfl Tryd.underlying24 rfl (ce22) (nf22)) ?_)
   refine wlo 4 5 rfl rfl rfl (wo_run rfl rfl (run_load1 rfl rfl Tryd.underlying22 rfl (hsb8.cell S2.m rfl)) ?_)
   refine wlo 5 6 rfl rfl rfl (wo_run rfl rfl (run_len rfl rfl rfl rfl rfl rfl Tryd.underlying22) ?_)
   refine wlo 6 7 rfl rfl rfl (wo_run rfl rfl (run_gtr rfl rfl rfl) ?_)
   refine wla 7 8 rfl rfl rfl rfl rfl rfl rfl ?_
   refine wl_end rfl ?_
   refine nm_sub [(4, _), (15, _)] ⟨rfl, rfl, trivial⟩ ?_
   refine nm_thn ?_
   refine ws_condN BOpen_n16 BOpen_n17 rfl rfl rfl rfl (fun hb15 => ?_) (fun hb15 => ?_)
   ·replace hb15 := of_decide_eq_true hb15
    refine ws_seqN BOpen_n18 BOpen_n19 rfl rfl rfl ?_
    refine ws_region rfl ?_
    refine wla 0 1 rfl rfl rfl rfl rfl rfl rfl ?_
    refine wla 1 2 rfl rfl rfl rfl rfl rfl rfl ?_
    refine wl_end rfl ?_
    refine nm_sub [(2, _), (3, _)] ⟨rfl, rfl, trivial⟩ ?_
    refine nm_thn ?_
    refine ws_ret hC [_, _] rfl rfl ⟨rfl, rfl, trivial⟩ ?_
    refine ⟨_, rfl, _, hle1, (S2.pick [] [] (by decide) trivial), ?_⟩
    have e0 : errK d 12 = 2 := by unfold errK; rw [if_pos hopn8, if_pos (by omega)]
    exact .inl ⟨by rw [e0]; decide, by rw [e0]; rfl⟩
   ·replace hb15 := of_decide_eq_false hb15
    refine ws_skip rfl ?_
    refine nm_blk ?_
    refine nm_sub [(4, _)] ⟨rfl, trivial⟩ ?_
    refine nm_thn ?_
    refine ws_seqN BOpen_n20 BOpen_n21 rfl rfl rfl ?_
    refine ws_region rfl ?_
    refine wlm 0 1 rfl rfl rfl rfl rfl rfl rfl ?_
    refine wla 1 2 rfl rfl rfl rfl rfl rfl rfl ?_
    refine wla 2 3 rfl rfl rfl rfl rfl rfl rfl ?_
    refine wl_end rfl ?_
    refine nm_sub [(2, _), (3, _)] ⟨rfl, rfl, trivial⟩ ?_
    refine nm_thn ?_
    refine ws_ret hC [_, _] rfl rfl ⟨rfl, rfl, trivial⟩ ?_
    refine ⟨_, rfl, _, hle1, (S2.pick [] [] (by decide) trivial), ?_⟩
    have e0 : errK d 12 = 0 := by unfold errK; rw [if_pos hopn8, if_neg (by omega)]
    exact .inr ⟨e0, _, _, _, _, _, _, _, rfl, hsb8, hsc8, hsi8, hso8⟩
noncomputable def few_n0 : Code := Tryd.f7.body.getD .skip
noncomputable def few_n1 : Code := cL few_n0
noncomputable def few_n2 : Code := cR few_n0
noncomputable def few_n3 : Code := cL few_n2
noncomputable def few_n4 : Code := cR few_n2
noncomputable def few_n5 : Code := cL few_n4
noncomputable def few_n6 : Code := cR few_n4
noncomputable def few_n7 : Code := cL few_n5
noncomputable def few_n8 : Code := cR few_n5
noncomputable def few_n9 : Code := cL few_n8
noncomputable def few_n10 : Code := cR few_n8
noncomputable def few_n11 : Code := cL few_n6
noncomputable def few_n12 : Code := cR few_n6
set_option maxRecDepth 10000 in
theorem few_t {w : World} {M : Hp} {X : Fr} (d : Dg) {dcrsA : Option Addr} {dcrsc : Nat} (m : Nat) (hdcrs : RdA cdCr (M.un X.h) dcrsA dcrsc d.crs) (S : SH w M X []) : Ct Tryd.prog 7 [.agg [.slice dcrsA d.crs.length dcrsc, .int .i64 d.loops].toArray, .int .i64 (m : Int)] w M X (fun u _ => u = .int .i64 (errK d m)) := by
 unfold Ct
 have rmhdcrs : d.crs.length * 40 ≤ 140737488355328 := hdcrs.room
 refine calls_in (b := few_n0) Tryd.func7 rfl Tryd.ntmps7 rfl (fun C hC => ?_)
 refine ws_sub [(0, _), (1, _)] ⟨rfl, rfl, trivial⟩ ?_
 refine ws_seqN few_n1 few_n2 rfl rfl rfl ?_
 refine ws_region rfl ?_
 refine wlo 0 1 rfl rfl rfl (wo_box (l := [_, _]) rfl rfl rfl rfl rfl S ?_)
 intro gb1 w1 S1; clear S
 refine wla 1 2 rfl rfl rfl rfl rfl rfl rfl ?_
 refine wl_end rfl ?_
 refine nm_sub [(1, _), (2, _)] ⟨rfl, rfl, trivial⟩ ?_
 refine nm_thn ?_
 refine ws_seqN few_n3 few_n4 rfl rfl rfl ?_
 refine ws_region rfl ?_
 refine wlo 0 1 rfl rfl rfl (wo_run rfl rfl (run_loadN (us := [_, _]) rfl rfl Tryd.underlying24 rfl sz24 (S1.boxcs (i := 0) rfl ⟨rfl, rfl, trivial⟩)) ?_)
 refine wlo 1 2 rfl rfl rfl (wo_ct rfl rfl rfl rfl rfl rfl rfl cf16 S1 (PlanarMay_t d (hdcrs.mono S1.un_XH) S1.lend) ?_)
 intro vw2 w2 M1 hle1 S2 hRw2; clear S1
 replace hdcrs := hdcrs.mono (Hp.un_mono hle1 S2.mx)
 obtain rfl := hRw2
 refine wla 2 3 rfl rfl rfl rfl rfl rfl rfl ?_
 refine wl_end rfl ?_
 refine nm_sub [(1, _), (2, _), (5, _)] ⟨rfl, rfl, rfl, trivial⟩ ?_
 refine nm_thn ?_
 refine ws_seqN few_n5 few_n6 rfl rfl rfl ?_
 refine ws_seqN few_n7 few_n8 rfl rfl rfl ?_
 refine ws_region rfl ?_
 refine wlm 0 1 rfl rfl rfl rfl rfl rfl rfl ?_
 refine wlo 1 2 rfl rfl rfl (wo_run rfl rfl (run_eql rfl rfl rfl) ?_)
 refine wlm 2 3 rfl rfl rfl rfl rfl rfl rfl ?_
 refine wl_split (t := 10) rfl (fun hg10 => ?_) (fun hg10 => ?_)
 ·replace hg10 := of_decide_eq_true hg10
  refine wl_opG (k := 3) (k' := 4) rfl rfl ⟨_, _, _, rfl, rfl, rfl, rfl⟩ rfl (wo_run rfl rfl (run_fieldAddr rfl rfl Tryd.underlying24 rfl (ce22) (nf22)) ?_)
  refine wl_opG (k := 4) (k' := 5) rfl rfl ⟨_, _, _, rfl, rfl, rfl, rfl⟩ rfl (wo_run rfl rfl (run_load1 rfl rfl Tryd.underlying22 rfl (S2.boxc (i := 0) rfl rfl)) ?_)
  refine wl_opG (k := 5) (k' := 6) rfl rfl ⟨_, _, _, rfl, rfl, rfl, rfl⟩ rfl (wo_run rfl rfl (run_len rfl rfl rfl rfl rfl rfl Tryd.underlying22) ?_)
  refine wl_opG (k := 6) (k' := 7) rfl rfl ⟨_, _, _, rfl, rfl, rfl, rfl⟩ rfl (wo_run rfl rfl (run_move rfl rfl) ?_)
  refine wl_opG (k := 7) (k' := 8) rfl rfl ⟨_, _, _, rfl, rfl, rfl, rfl⟩ rfl (wo_run rfl rfl (run_gtr rfl rfl rfl) ?_)
  refine wlo 8 9 rfl rfl rfl (wo_run rfl rfl (run_pickT rfl rfl rfl) ?_)
  refine wl_end rfl ?_
  refine nm_sub [(5, _), (16, _)] ⟨rfl, rfl, trivial⟩ ?_
  refine nm_thn ?_
  refine ws_condN few_n9 few_n10 rfl rfl rfl rfl (fun hb16 => ?_) (fun hb16 => ?_)
  ·replace hb16 := of_decide_eq_true hb16
   refine ws_region rfl ?_
   refine wla 0 1 rfl rfl rfl rfl rfl rfl rfl ?_
   refine wl_end rfl ?_
   refine nm_sub [(5, _)] ⟨rfl, trivial⟩ ?_
   refine nm_thn ?_
   refine ws_seqN few_n11 few_n12 rfl rfl rfl ?_
   refine ws_region rfl ?_
   refine wlm 0 1 rfl rfl rfl rfl rfl rfl rfl ?_
   refine wla 1 2 rfl rfl rfl rfl rfl rfl rfl ?_
   refine wl_end rfl ?_
   refine nm_sub [(4, _)] ⟨rfl, trivial⟩ ?_
   refine nm_thn ?_
   refine ws_ret hC [_] rfl rfl ⟨rfl, trivial⟩ ?_
   refine ⟨_, rfl, _, hle1, (S2.pick [] [] (by decide) trivial), ?_⟩
   show Value.int _ _ = _
   refine congrArg (Value.int .i64) ?_
   unfold errK
   first | (rw [if_pos (by first | omega | simp_all), if_pos (by omega)]) | (rw [if_pos (by first | omega | simp_all), if_neg (by omega)]; first | rfl | omega) | (rw [if_neg (by first | omega | simp_all)])
  ·replace hb16 := of_decide_eq_false hb16
   refine ws_skip rfl ?_
   refine nm_sub [(5, _)] ⟨rfl, trivial⟩ ?_
   refine nm_thn ?_
   refine ws_seqN few_n11 few_n12 rfl rfl rfl ?_
   refine ws_region rfl ?_
   refine wlm 0 1 rfl rfl rfl rfl rfl rfl rfl ?_
   refine wla 1 2 rfl rfl rfl rfl rfl rfl rfl ?_
   refine wl_end rfl ?_
   refine nm_sub [(4, _)] ⟨rfl, trivial⟩ ?_
   refine nm_thn ?_
   refine ws_ret hC [_] rfl rfl ⟨rfl, trivial⟩ ?_
   refine ⟨_, rfl, _, hle1, (S2.pick [] [] (by decide) trivial), ?_⟩
   show Value.int _ _ = _
   refine congrArg (Value.int .i64) ?_
   unfold errK
   first | (rw [if_pos (by first | omega | simp_all), if_pos (by omega)]) | (rw [if_pos (by first | omega | simp_all), if_neg (by omega)]; first | rfl | omega) | (rw [if_neg (by first | omega | simp_all)])
 ·replace hg10 := of_decide_eq_false hg10
  refine wl_no (k := 3) (k' := 4) (d := 11) rfl rfl ⟨_, _, _, rfl, rfl, rfl, rfl⟩ rfl rfl ?_
  refine wl_no (k := 4) (k' := 5) (d := 12) rfl rfl ⟨_, _, _, rfl, rfl, rfl, rfl⟩ rfl rfl ?_
  refine wl_no (k := 5) (k' := 6) (d := 13) rfl rfl ⟨_, _, _, rfl, rfl, rfl, rfl⟩ rfl rfl ?_
  refine wl_no (k := 6) (k' := 7) (d := 14) rfl rfl ⟨_, _, _, rfl, rfl, rfl, rfl⟩ rfl rfl ?_
  refine wl_no (k := 7) (k' := 8) (d := 15) rfl rfl ⟨_, _, _, rfl, rfl, rfl, rfl⟩ rfl rfl ?_
  refine wlo 8 9 rfl rfl rfl (wo_run rfl rfl (run_pickF rfl rfl rfl) ?_)
  refine wl_end rfl ?_
  refine nm_sub [(5, _), (16, _)] ⟨rfl, rfl, trivial⟩ ?_
  refine nm_thn ?_
  refine ws_condFN few_n10 rfl rfl rfl ?_
  refine ws_skip rfl ?_
  refine nm_sub [(5, _)] ⟨rfl, trivial⟩ ?_
  refine nm_thn ?_
  refine ws_seqN few_n11 few_n12 rfl rfl rfl ?_
  refine ws_region rfl ?_
  refine wlm 0 1 rfl rfl rfl rfl rfl rfl rfl ?_
  refine wla 1 2 rfl rfl rfl rfl rfl rfl rfl ?_
  refine wl_end rfl ?_
  refine nm_sub [(4, _)] ⟨rfl, trivial⟩ ?_
  refine nm_thn ?_
  refine ws_ret hC [_] rfl rfl ⟨rfl, trivial⟩ ?_
  refine ⟨_, rfl, _, hle1, (S2.pick [] [] (by decide) trivial), ?_⟩
  show Value.int _ _ = _
  refine congrArg (Value.int .i64) ?_
  unfold errK
  first | (rw [if_pos (by first | omega | simp_all), if_pos (by omega)]) | (rw [if_pos (by first | omega | simp_all), if_neg (by omega)]; first | rfl | omega) | (rw [if_neg (by first | omega | simp_all)])
end Go.Proofs.YtlmcnpbkmihjkaaDoor
namespace Go.Proofs.YtlmcnpbkmihjkaaDoor
open Go.ChangeShapes Go.WideShapes Go.ChangeAt Go.RowKit
theorem dlt_doc : mk (pr [⟨-2, -1⟩, ⟨2, -1⟩]) = dlt := mk_perm (List.Perm.swap _ _ _)
theorem dlt_bd : Bd [⟨-2, -1⟩, ⟨2, -1⟩] 2 := fun t ht => by
 simp at ht
 rcases ht with rfl | rfl <;> decide
theorem one_can : Can [⟨0, 1⟩] := ⟨by simp, fun t ht => by simp at ht; subst ht; exact ⟨by decide, by decide, by decide⟩⟩
noncomputable def ringPower_n0 : Code := Tryd.f18.body.getD .skip
noncomputable def ringPower_n1 : Code := cL ringPower_n0
noncomputable def ringPower_n2 : Code := cR ringPower_n0
noncomputable def ringPower_n3 : Code := cL ringPower_n2
noncomputable def ringPower_n4 : Code := cR ringPower_n2
noncomputable def ringPower_n5 : Code := cL ringPower_n4
noncomputable def ringPower_n6 : Code := cR ringPower_n4
noncomputable def ringPower_n7 : Code := cL ringPower_n5
noncomputable def ringPower_n8 : Code := cR ringPower_n5
noncomputable def ringPower_n9 : Code := cL ringPower_n8
noncomputable def ringPower_n10 : Code := cL ringPower_n9
noncomputable def ringPower_n11 : Code := cL ringPower_n10
noncomputable def ringPower_n12 : Code := cR ringPower_n10
noncomputable def ringPower_n13 : Code := cL ringPower_n11
noncomputable def ringPower_n14 : Code := cR ringPower_n11
noncomputable def ringPower_n15 : Code := cL ringPower_n14
noncomputable def ringPower_n16 : Code := cR ringPower_n14
noncomputable def ringPower_n17 : Code := cL ringPower_n12
noncomputable def ringPower_n18 : Code := cR ringPower_n12
noncomputable def ringPower_n19 : Code := cL ringPower_n17
noncomputable def ringPower_n20 : Code := cL ringPower_n6
noncomputable def ringPower_n21 : Code := cR ringPower_n6
set_option maxRecDepth 10000 in
theorem ringPower_t {w : World} {M : Hp} {X : Fr} (n : Nat) (hn : n ≤ 64) (S : SH w M X []) : Ct Tryd.prog 18 [.int .i64 (n : Int)] w M X (PT (2 * n) (dlp n)) := by
 unfold Ct
 refine calls_in (b := ringPower_n0) Tryd.func18 rfl Tryd.ntmps18 rfl (fun C hC => ?_)
 refine ws_sub [(0, _)] ⟨rfl, trivial⟩ ?_
 refine ws_seqN ringPower_n1 ringPower_n2 rfl rfl rfl ?_
 refine ws_region rfl ?_
 refine wla 0 1 rfl rfl rfl rfl rfl rfl rfl ?_
 refine wl_end rfl ?_
 refine nm_sub [(0, _)] ⟨rfl, trivial⟩ ?_
 refine nm_thn ?_
 refine ws_seqN ringPower_n3 ringPower_n4 rfl rfl rfl ?_
 refine ws_region rfl ?_
 refine wlo 0 1 rfl rfl rfl (wo_run rfl rfl (run_build (l := [_, _]) rfl rfl st45 rfl rfl) ?_)
 refine wlo 1 2 rfl rfl rfl (wo_buildSlice1 (C := cdTm) (l := [_, _]) rfl rfl rfl rfl sl25 rfl rfl rfl rfl S ?_)
 intro gb1 w1 S1; clear S
 refine wla 2 3 rfl rfl rfl rfl rfl rfl rfl ?_
 refine wl_end rfl ?_
 refine nm_sub [(0, _), (3, _)] ⟨rfl, rfl, trivial⟩ ?_
 refine nm_thn ?_
 refine ws_seqN ringPower_n5 ringPower_n6 rfl rfl rfl ?_
 refine ws_seqN ringPower_n7 ringPower_n8 rfl rfl rfl ?_
 obtain ⟨M1, hle1, S2, hr1⟩ := S1.pubbox (C := cdTm) (z := (⟨0, 1⟩ : Tm)) (i := 0) (H' := [_]) rfl rfl rfl (by decide)
 clear S1
 refine ws_region rfl ?_
 refine wla 0 1 rfl rfl rfl rfl rfl rfl rfl ?_
 refine wl_end rfl ?_
 refine nm_thn ?_
 refine ws_blockN ringPower_n9 0 rfl rfl rfl ?_
 refine ws_loopE (fun mx_ ax_ wx_ => ∃ (i : Nat) (acc : List Tm) (Ao : Option Addr) (co : Nat) (M2 : Hp), M1.le M2 ∧ mx_ = n - i ∧ Env 18 [(0, .int .i64 (n : Int)), (3, .slice Ao acc.length co), (4, .int .i64 (i : Int))] ax_ ∧ SH wx_ M2 X [] ∧ RdA cdTm M2 Ao co acc ∧ i ≤ n ∧ Can acc ∧ Bd acc (2 * i) ∧ mk (pr acc) = dlp i) rfl ?_ ?_
 ·intro ax_ hax_
  refine ⟨_, ⟨0, [(⟨0, 1⟩ : Tm)], (some ⟨gb1, 0, none⟩), 1, _, Hp.le_refl _, rfl, hax_.sub ⟨rfl, rfl, rfl, trivial⟩, S2.pick [] [] (by decide) trivial, ?hq1f0, ?hq1f1, ?hq1f2, ?hq1f3, ?hq1f4⟩⟩
  case hq1f0 => exact hr1
  case hq1f1 => omega
  case hq1f2 => exact one_can
  case hq1f3 => (intro t ht; simp at ht; subst ht; decide)
  case hq1f4 => rfl
 ·rintro m1 a1 w2 ⟨i, acc, Ao, co, M2, hle2, rfl, he1, S3, hacc, hi, hcc, hbc, hmc⟩
  clear S2
  refine ws_in he1 (c := ringPower_n10) rfl ?_
  clear he1 a1
  replace hr1 := hr1.mono hle2
  refine ws_seqN ringPower_n11 ringPower_n12 rfl rfl rfl ?_
  refine ws_seqN ringPower_n13 ringPower_n14 rfl rfl rfl ?_
  refine ws_region rfl ?_
  refine wlm 0 1 rfl rfl rfl rfl rfl rfl rfl ?_
  refine wlm 1 2 rfl rfl rfl rfl rfl rfl rfl ?_
  refine wlo 2 3 rfl rfl rfl (wo_run rfl rfl (run_lss rfl rfl rfl) ?_)
  refine wl_end rfl ?_
  refine nm_sub [(0, _), (3, _), (4, _), (9, _)] ⟨rfl, rfl, rfl, rfl, trivial⟩ ?_
  refine nm_thn ?_
  refine ws_condN ringPower_n15 ringPower_n16 rfl rfl rfl rfl (fun hb9 => ?_) (fun hb9 => ?_)
  ·replace hb9 := of_decide_eq_true hb9
   refine ws_skip rfl ?_
   refine nm_sub [(0, _), (3, _), (4, _)] ⟨rfl, rfl, rfl, trivial⟩ ?_
   refine nm_thn ?_
   refine ws_seqN ringPower_n17 ringPower_n18 rfl rfl rfl ?_
   refine ws_blockN ringPower_n19 1 rfl rfl rfl ?_
   refine ws_region rfl ?_
   refine wlm 0 1 rfl rfl rfl rfl rfl rfl rfl ?_
   refine wlo 1 2 rfl rfl rfl (wo_run rfl rfl (run_build (l := [_, _]) rfl rfl st45 rfl rfl) ?_)
   refine wlo 2 3 rfl rfl rfl (wo_run rfl rfl (run_build (l := [_, _]) rfl rfl st45 rfl rfl) ?_)
   refine wlo 3 4 rfl rfl rfl (wo_buildSliceN (C := cdTm) (l := [_, _, _, _]) (pl := [(0, 2), (2, 2)]) rfl rfl rfl rfl sl25 rfl rfl rfl rfl rfl S3 ?_)
   intro gb2 w4 S5; clear S3
   have S7 := S5.boxrow (C := cdTm) [(⟨(-2), (-1)⟩ : Tm), (⟨2, (-1)⟩ : Tm)] (i := 0) (H' := [_]) rfl rfl (by simp) rfl; clear S5
   obtain ⟨M3, hle3, S6, ⟨_, _, eE, hr2⟩⟩ := S7.pubrow (i := 0) (H' := [_]) rfl rfl (by show 2 * _ ≤ _; decide); clear S7; injection eE with eE1 _ eE2; subst eE1; subst eE2
   replace hr1 := hr1.mono hle3
   replace hacc := hacc.mono hle3
   refine wlo 4 5 rfl rfl rfl (wo_ct rfl rfl rfl rfl rfl rfl rfl cf32 S6 (Product_t acc ([(⟨(-2), (-1)⟩ : Tm), (⟨2, (-1)⟩ : Tm)]) hacc hr2 ((2 * i)) (2) (hbc) (dlt_bd) ((by omega)) S6.lend) ?_)
   intro vw5 w5 M4 hle4 S8 hRw5; clear S6
   replace hr1 := hr1.mono hle4
   replace hacc := hacc.mono hle4
   replace hr2 := hr2.mono hle4
   obtain ⟨A1, c1, l1, rfl, hr3, hcan1, hbd1, hmk1⟩ := hRw5
   refine wla 5 6 rfl rfl rfl rfl rfl rfl rfl ?_
   refine wl_end rfl ?_
   refine nm_blk ?_
   refine nm_sub [(0, _), (3, _), (4, _)] ⟨rfl, rfl, rfl, trivial⟩ ?_
   refine nm_thn ?_
   refine ws_region rfl ?_
   refine wlm 0 1 rfl rfl rfl rfl rfl rfl rfl ?_
   refine wlo 1 2 rfl rfl rfl (wo_run rfl rfl (run_add rfl rfl rfl (by first | omega | (simp only [lens]; omega))) ?_)
   refine wla 2 3 rfl rfl rfl rfl rfl rfl rfl ?_
   refine wl_end rfl ?_
   refine nm_lp ?_
   intro ax_ hax_
   refine ⟨_, ?hq2m, ⟨i + 1, l1, A1, c1, _, ((hle2.trans hle3).trans hle4), rfl, hax_.sub ⟨rfl, rfl, rfl, trivial⟩, S8.pick [] [] (by decide) trivial, ?hq2f0, ?hq2f1, ?hq2f2, ?hq2f3, ?hq2f4⟩⟩
   case hq2f0 => exact hr3
   case hq2f1 => omega
   case hq2f2 => exact hcan1
   case hq2f3 => exact (hbd1).mono (by omega)
   case hq2f4 => (rw [hmk1, hmc, dlt_doc]; rfl)
   case hq2m => omega
  ·replace hb9 := of_decide_eq_false hb9
   refine ws_exit rfl rfl ?_
   refine nm_sub [(3, _)] ⟨rfl, trivial⟩ ?_
   refine nm_thn ?_
   refine ws_seqN ringPower_n20 ringPower_n21 rfl rfl rfl ?_
   refine ws_region rfl ?_
   refine wlm 0 1 rfl rfl rfl rfl rfl rfl rfl ?_
   refine wla 1 2 rfl rfl rfl rfl rfl rfl rfl ?_
   refine wl_end rfl ?_
   refine nm_sub [(2, _)] ⟨rfl, trivial⟩ ?_
   refine nm_thn ?_
   refine ws_ret hC [_] rfl rfl ⟨rfl, trivial⟩ ?_
   refine ⟨_, rfl, _, hle1.trans hle2, (S3.pick [] [] (by decide) trivial), ?_⟩
   obtain rfl : i = n := by omega
   exact ⟨_, _, _, rfl, hacc, hcc, hbc, hmc⟩
end Go.Proofs.YtlmcnpbkmihjkaaDoor
namespace Go.Proofs.YtlmcnpbkmihjkaaDoor
open Go.ChangeShapes Go.WideShapes Go.ChangeAt Go.RowKit
def wdN (d : Dg) : Nat := (2 * (d.crs.length : Int) + d.loops + 1).toNat
theorem wdN_eq {d : Dg} (h : 0 ≤ d.loops) : (wdN d : Int) = 2 * (d.crs.length : Int) + d.loops + 1 := by unfold wdN; omega
def kD (d : Dg) (s : Nat) : Nat := (rngF d (bitN s)).toNat
def gD (d : Dg) (s : Nat) : Pol := dlp (kD d s - 1) * mono (expN s d.crs.length) 1
/-- What a cell of the counts brings. -/
def cw (d : Dg) (mn : List Int) (r e : Nat) : Pol := dlp (r - 1) * mono ((e : Int) - (d.crs.length : Int)) (ga mn (e * wdN d + r))
def rowS (d : Dg) (mn : List Int) (r : Nat) : Pol := sumP (fun e => cw d mn r e) (2 * d.crs.length + 1)
def TS (d : Dg) (mn : List Int) : Pol := sumP (fun r => rowS d mn (r + 1)) (wdN d - 1)
theorem cell_ne {W e e0 r r0 : Nat} (hr : r < W) (hr0 : r0 < W) (h : e0 * W + r0 = e * W + r) : e = e0 ∧ r = r0 := by
 have hW : 0 < W := by omega
 have h1 := congrArg (fun z => z % W) h
 have h2 := congrArg (fun z => z / W) h
 simp only [Nat.mul_add_mod', Nat.mod_eq_of_lt hr, Nat.mod_eq_of_lt hr0] at h1
 simp only [Nat.mul_comm _ W, Nat.mul_add_div hW, Nat.div_eq_of_lt hr, Nat.div_eq_of_lt hr0, Nat.add_zero] at h2
 exact ⟨h2.symm, h1.symm⟩
theorem TS_upd {d : Dg} {mn : List Int} {e0 r0 : Nat} (hr : 1 ≤ r0 ∧ r0 < wdN d) (he : e0 < 2 * d.crs.length + 1) (hl : e0 * wdN d + r0 < mn.length) :
  TS d (mn.set (e0 * wdN d + r0) (ga mn (e0 * wdN d + r0) + 1)) = TS d mn + dlp (r0 - 1) * mono ((e0 : Int) - (d.crs.length : Int)) 1 := by
 unfold TS
 refine sumP_upd (k := r0 - 1) (by omega) ?_ (fun x hx hn => ?_)
 ·show rowS d _ (r0 - 1 + 1) = rowS d mn (r0 - 1 + 1) + _
  rw [show r0 - 1 + 1 = r0 by omega]
  unfold rowS
  refine sumP_upd (k := e0) he ?_ (fun e _ hne => ?_)
  ·unfold cw
   rw [ga_set _ _ _ _ hl, if_pos rfl, mono_add, Pol.mul_add]
  ·unfold cw
   rw [ga_set _ _ _ _ hl, if_neg (fun e2 => hne (cell_ne hr.2 hr.2 e2).1)]
 ·show rowS d _ (x + 1) = rowS d mn (x + 1)
  unfold rowS
  refine sumP_congr fun e _ => ?_
  unfold cw
  rw [ga_set _ _ _ _ hl, if_neg (fun e2 => by have := (cell_ne (show x + 1 < wdN d by omega) hr.2 e2).2; omega)]
theorem TS_zero (d : Dg) (L : Nat) : TS d (List.replicate L 0) = Pol.o := by
 unfold TS rowS
 refine sumP_zero fun r _ => sumP_zero fun e _ => ?_
 unfold cw
 have h : ga (List.replicate L (0 : Int)) (e * wdN d + (r + 1)) = 0 := by
  by_cases h : e * wdN d + (r + 1) < L
  ·exact ga_rep _ _ _ h
  ·unfold ga; rw [List.getD_eq_getElem?_getD, List.getElem?_eq_none (by rw [List.length_replicate]; omega)]; rfl
 rw [h, mono_zero, Pol.mul_zero]
end Go.Proofs.YtlmcnpbkmihjkaaDoor
namespace Go.Proofs.YtlmcnpbkmihjkaaDoor
open Go.ChangeShapes Go.WideShapes Go.ChangeAt Go.RowKit
theorem Pol.add_l (x : Pol) {a b : Pol} (h : a = b) : x + a = x + b := by rw [h]
theorem rep0 (L x : Nat) : ga (List.replicate L (0 : Int)) x = 0 := by
 by_cases h : x < L
 ·exact ga_rep _ _ _ h
 ·unfold ga; rw [List.getD_eq_getElem?_getD, List.getElem?_eq_none (by rw [List.length_replicate]; omega)]; rfl
theorem ix_eq {d : Dg} {q r : Nat} {a b c : Int} (ha : a = (q : Int)) (hb : b = (wdN d : Int)) (hc : c = (r : Int)) : a * b + c = ((q * wdN d + r : Nat) : Int) := by
 rw [ha, hb, hc, Int.natCast_add, Int.natCast_mul]
theorem ix_bd {d : Dg} (hn : d.crs.length ≤ 12) (hl : 0 ≤ d.loops ∧ d.loops ≤ 16) {q : Nat} (hq : q ≤ 25) {a : Int} (ha : a = (q : Int)) : 0 ≤ a * (wdN d : Int) ∧ a * (wdN d : Int) ≤ 1025 := by
 have hw : wdN d ≤ 41 := by have := wdN_eq (d := d) hl.1; omega
 rw [ha, ← Int.natCast_mul]
 have := Nat.mul_le_mul hq hw
 omega
theorem ix_lt {d : Dg} {q r : Nat} (hq : q < 2 * d.crs.length + 1) (hr : r < wdN d) : q * wdN d + r < (2 * d.crs.length + 1) * wdN d := by
 have := Nat.mul_le_mul_right (wdN d) (show q + 1 ≤ 2 * d.crs.length + 1 by omega)
 rw [Nat.succ_mul] at this
 omega
theorem kD_bd {d : Dg} (hab : arcsB d = true) (hl : 0 ≤ d.loops) (hne : ¬ (d.crs.length = 0 ∧ d.loops = 0)) (s : Nat) : (rngF d (bitN s) = ((kD d s : Nat) : Int)) ∧ 1 ≤ kD d s ∧ kD d s < wdN d := by
 have h1 := rngF_pos hab hl hne (bitN s)
 have h2 := rngF_le d (bitN s)
 have h3 := wdN_eq hl
 unfold kD
 omega
theorem coef_step {S p : Pol} {l : List Tm} {i : Nat} (h : i < l.length) (e c : Int) (hS : p = S + mk (pr (l.take i)) * mono e c) : p + mono ((ga l i).e + e) (wr (c * (ga l i).c)) = S + mk (pr (l.take (i + 1))) * mono e c := by
 rw [mk_take h, Pol.add_mul, mono_mul, ← Pol.add_assoc, ← hS]
 refine congrArg (fun z => p + z) ?_
 rw [Int.mul_comm (ga l i).c c]
 exact mono_congr rfl (md_wr _)
noncomputable def BracketOf_n0 : Code := Tryd.f9.body.getD .skip
noncomputable def BracketOf_n1 : Code := cL BracketOf_n0
noncomputable def BracketOf_n2 : Code := cR BracketOf_n0
noncomputable def BracketOf_n3 : Code := cL BracketOf_n2
noncomputable def BracketOf_n4 : Code := cR BracketOf_n2
noncomputable def BracketOf_n5 : Code := cL BracketOf_n4
noncomputable def BracketOf_n6 : Code := cR BracketOf_n4
noncomputable def BracketOf_n7 : Code := cL BracketOf_n6
noncomputable def BracketOf_n8 : Code := cR BracketOf_n6
noncomputable def BracketOf_n9 : Code := cL BracketOf_n8
noncomputable def BracketOf_n10 : Code := cR BracketOf_n8
noncomputable def BracketOf_n11 : Code := cL BracketOf_n9
noncomputable def BracketOf_n12 : Code := cR BracketOf_n9
noncomputable def BracketOf_n13 : Code := cL BracketOf_n12
noncomputable def BracketOf_n14 : Code := cL BracketOf_n13
noncomputable def BracketOf_n15 : Code := cL BracketOf_n14
noncomputable def BracketOf_n16 : Code := cR BracketOf_n14
noncomputable def BracketOf_n17 : Code := cL BracketOf_n15
noncomputable def BracketOf_n18 : Code := cR BracketOf_n15
noncomputable def BracketOf_n19 : Code := cL BracketOf_n18
noncomputable def BracketOf_n20 : Code := cR BracketOf_n18
noncomputable def BracketOf_n21 : Code := cL BracketOf_n16
noncomputable def BracketOf_n22 : Code := cR BracketOf_n16
noncomputable def BracketOf_n23 : Code := cL BracketOf_n21
noncomputable def BracketOf_n24 : Code := cL BracketOf_n23
noncomputable def BracketOf_n25 : Code := cR BracketOf_n23
noncomputable def BracketOf_n26 : Code := cL BracketOf_n25
noncomputable def BracketOf_n27 : Code := cR BracketOf_n25
noncomputable def BracketOf_n28 : Code := cL BracketOf_n26
noncomputable def BracketOf_n29 : Code := cR BracketOf_n26
noncomputable def BracketOf_n30 : Code := cL BracketOf_n29
noncomputable def BracketOf_n31 : Code := cL BracketOf_n30
noncomputable def BracketOf_n32 : Code := cL BracketOf_n31
noncomputable def BracketOf_n33 : Code := cR BracketOf_n31
noncomputable def BracketOf_n34 : Code := cL BracketOf_n32
noncomputable def BracketOf_n35 : Code := cR BracketOf_n32
noncomputable def BracketOf_n36 : Code := cL BracketOf_n35
noncomputable def BracketOf_n37 : Code := cR BracketOf_n35
noncomputable def BracketOf_n38 : Code := cL BracketOf_n33
noncomputable def BracketOf_n39 : Code := cR BracketOf_n33
noncomputable def BracketOf_n40 : Code := cL BracketOf_n38
noncomputable def BracketOf_n41 : Code := cL BracketOf_n40
noncomputable def BracketOf_n42 : Code := cR BracketOf_n40
noncomputable def BracketOf_n43 : Code := cL BracketOf_n42
noncomputable def BracketOf_n44 : Code := cR BracketOf_n42
noncomputable def BracketOf_n45 : Code := cL BracketOf_n10
noncomputable def BracketOf_n46 : Code := cR BracketOf_n10
noncomputable def BracketOf_n47 : Code := cL BracketOf_n46
noncomputable def BracketOf_n48 : Code := cR BracketOf_n46
noncomputable def BracketOf_n49 : Code := cL BracketOf_n47
noncomputable def BracketOf_n50 : Code := cR BracketOf_n47
noncomputable def BracketOf_n51 : Code := cL BracketOf_n50
noncomputable def BracketOf_n52 : Code := cL BracketOf_n51
noncomputable def BracketOf_n53 : Code := cL BracketOf_n52
noncomputable def BracketOf_n54 : Code := cR BracketOf_n52
noncomputable def BracketOf_n55 : Code := cL BracketOf_n53
noncomputable def BracketOf_n56 : Code := cR BracketOf_n53
noncomputable def BracketOf_n57 : Code := cL BracketOf_n56
noncomputable def BracketOf_n58 : Code := cR BracketOf_n56
noncomputable def BracketOf_n59 : Code := cL BracketOf_n54
noncomputable def BracketOf_n60 : Code := cR BracketOf_n54
noncomputable def BracketOf_n61 : Code := cL BracketOf_n59
noncomputable def BracketOf_n62 : Code := cL BracketOf_n61
noncomputable def BracketOf_n63 : Code := cR BracketOf_n61
noncomputable def BracketOf_n64 : Code := cL BracketOf_n63
noncomputable def BracketOf_n65 : Code := cR BracketOf_n63
noncomputable def BracketOf_n66 : Code := cL BracketOf_n65
noncomputable def BracketOf_n67 : Code := cL BracketOf_n66
noncomputable def BracketOf_n68 : Code := cL BracketOf_n67
noncomputable def BracketOf_n69 : Code := cR BracketOf_n67
noncomputable def BracketOf_n70 : Code := cL BracketOf_n68
noncomputable def BracketOf_n71 : Code := cR BracketOf_n68
noncomputable def BracketOf_n72 : Code := cL BracketOf_n71
noncomputable def BracketOf_n73 : Code := cR BracketOf_n71
noncomputable def BracketOf_n74 : Code := cL BracketOf_n69
noncomputable def BracketOf_n75 : Code := cR BracketOf_n69
noncomputable def BracketOf_n76 : Code := cL BracketOf_n74
noncomputable def BracketOf_n77 : Code := cL BracketOf_n76
noncomputable def BracketOf_n78 : Code := cR BracketOf_n76
noncomputable def BracketOf_n79 : Code := cL BracketOf_n78
noncomputable def BracketOf_n80 : Code := cR BracketOf_n78
noncomputable def BracketOf_n81 : Code := cL BracketOf_n80
noncomputable def BracketOf_n82 : Code := cL BracketOf_n81
noncomputable def BracketOf_n83 : Code := cL BracketOf_n82
noncomputable def BracketOf_n84 : Code := cR BracketOf_n82
noncomputable def BracketOf_n85 : Code := cL BracketOf_n83
noncomputable def BracketOf_n86 : Code := cR BracketOf_n83
noncomputable def BracketOf_n87 : Code := cL BracketOf_n86
noncomputable def BracketOf_n88 : Code := cR BracketOf_n86
noncomputable def BracketOf_n89 : Code := cL BracketOf_n84
noncomputable def BracketOf_n90 : Code := cR BracketOf_n84
noncomputable def BracketOf_n91 : Code := cL BracketOf_n89
noncomputable def BracketOf_n92 : Code := cL BracketOf_n48
noncomputable def BracketOf_n93 : Code := cR BracketOf_n48
set_option maxHeartbeats 4000000 in
set_option maxRecDepth 10000 in
theorem BracketOf_t {w : World} {M : Hp} {X : Fr} (d : Dg) {dcrsA : Option Addr} {dcrsc : Nat} (hdcrs : RdA cdCr (M.un X.h) dcrsA dcrsc d.crs) (hn : d.crs.length ≤ 12) (hab : arcsB d = true) (hlo : 0 ≤ d.loops ∧ d.loops ≤ 16) (hne : ¬ (d.crs.length = 0 ∧ d.loops = 0)) (S : SH w M X []) : Ct Tryd.prog 9 [.agg [.slice dcrsA d.crs.length dcrsc, .int .i64 d.loops].toArray] w M X (PT 92 (sumP (gD d) (2 ^ d.crs.length))) := by
 unfold Ct
 have rmhdcrs : d.crs.length * 40 ≤ 140737488355328 := hdcrs.room
 have hpw1 : 0 < 2 ^ d.crs.length := Nat.pow_pos (by decide)
 have hpw2 : 2 ^ d.crs.length ≤ 4096 := Nat.le_trans (Nat.pow_le_pow_right (by decide) hn) (by decide)
 refine calls_in (b := BracketOf_n0) Tryd.func9 rfl Tryd.ntmps9 rfl (fun C hC => ?_)
 refine ws_sub [(0, _)] ⟨rfl, trivial⟩ ?_
 refine ws_seqN BracketOf_n1 BracketOf_n2 rfl rfl rfl ?_
 refine ws_region rfl ?_
 refine wlo 0 1 rfl rfl rfl (wo_box (l := [_, _]) rfl rfl rfl rfl rfl S ?_)
 intro gb1 w1 S1; clear S
 refine wla 1 2 rfl rfl rfl rfl rfl rfl rfl ?_
 refine wl_end rfl ?_
 refine nm_sub [(1, _)] ⟨rfl, trivial⟩ ?_
 refine nm_thn ?_
 refine ws_seqN BracketOf_n3 BracketOf_n4 rfl rfl rfl ?_
 refine ws_region rfl ?_
 refine wlo 0 1 rfl rfl rfl (wo_run rfl rfl (run_fieldAddr rfl rfl Tryd.underlying24 rfl (ce22) (nf22)) ?_)
 refine wlo 1 2 rfl rfl rfl (wo_run rfl rfl (run_load1 rfl rfl Tryd.underlying22 rfl (S1.boxc (i := 0) rfl rfl)) ?_)
 refine wlo 2 3 rfl rfl rfl (wo_run rfl rfl (run_len rfl rfl rfl rfl rfl rfl Tryd.underlying22) ?_)
 refine wla 3 4 rfl rfl rfl rfl rfl rfl rfl ?_
 refine wl_end rfl ?_
 refine nm_sub [(1, _), (3, _)] ⟨rfl, rfl, trivial⟩ ?_
 refine nm_thn ?_
 refine ws_seqN BracketOf_n5 BracketOf_n6 rfl rfl rfl ?_
 refine ws_region rfl ?_
 refine wlm 0 1 rfl rfl rfl rfl rfl rfl rfl ?_
 refine wlo 1 2 rfl rfl rfl (wo_run rfl rfl (run_mul rfl rfl rfl (by first | omega | (simp only [lens]; omega))) ?_)
 refine wlo 2 3 rfl rfl rfl (wo_run rfl rfl (run_add rfl rfl rfl (by first | omega | (simp only [lens]; omega))) ?_)
 refine wlm 3 4 rfl rfl rfl rfl rfl rfl rfl ?_
 refine wlo 4 5 rfl rfl rfl (wo_run rfl rfl (run_mul rfl rfl rfl (by first | omega | (simp only [lens]; omega))) ?_)
 refine wlo 5 6 rfl rfl rfl (wo_run rfl rfl (run_fieldAddr rfl rfl Tryd.underlying24 rfl (ce3) (nf3)) ?_)
 refine wlo 6 7 rfl rfl rfl (wo_run rfl rfl (run_load1 rfl rfl Tryd.underlying3 rfl (S1.boxc (i := 0) rfl rfl)) ?_)
 refine wlo 7 8 rfl rfl rfl (wo_run rfl rfl (run_add rfl rfl rfl (by first | omega | (simp only [lens]; omega))) ?_)
 refine wlo 8 9 rfl rfl rfl (wo_run rfl rfl (run_add rfl rfl rfl (by first | omega | (simp only [lens]; omega))) ?_)
 refine wl_eq 20 (.int .i64 ((2 * d.crs.length + 1 : Nat) : Int)) rfl (int_eq (by omega)) ?_
 refine wl_eq 26 (.int .i64 (wdN d : Int)) rfl (int_eq (by rw [wdN_eq hlo.1])) ?_
 have hwm := ix_bd (q := 2 * d.crs.length + 1) hn hlo (by omega) (a := ((2 * d.crs.length + 1 : Nat) : Int)) rfl
 refine wlo 9 10 rfl rfl rfl (wo_run rfl rfl (run_mul rfl rfl rfl (by first | omega | (simp only [lens]; omega))) ?_)
 refine wlo 10 11 rfl rfl rfl (wo_make (C := cdInt) ((2 * d.crs.length + 1) * wdN d) rfl rfl rfl rfl rfl sl46 (by first | rfl | omega) (by show _ * 8 ≤ _; first | omega | (simp only [lens]; omega)) S1 ?_)
 intro vr1 w2 S2; clear S1
 refine wla 11 12 rfl rfl rfl rfl rfl rfl rfl ?_
 refine wl_end rfl ?_
 refine nm_sub [(1, _), (3, _), (4, _)] ⟨rfl, rfl, rfl, trivial⟩ ?_
 refine nm_thn ?_
 refine ws_seqN BracketOf_n7 BracketOf_n8 rfl rfl rfl ?_
 refine ws_region rfl ?_
 refine wlm 0 1 rfl rfl rfl rfl rfl rfl rfl ?_
 refine wlo 1 2 rfl rfl rfl (wo_run rfl rfl (run_mul rfl rfl rfl (by first | omega | (simp only [lens]; omega))) ?_)
 refine wlo 2 3 rfl rfl rfl (wo_run rfl rfl (run_fieldAddr rfl rfl Tryd.underlying24 rfl (ce3) (nf3)) ?_)
 refine wlo 3 4 rfl rfl rfl (wo_run rfl rfl (run_load1 rfl rfl Tryd.underlying3 rfl (S2.boxc (i := 1) rfl rfl)) ?_)
 refine wlo 4 5 rfl rfl rfl (wo_run rfl rfl (run_add rfl rfl rfl (by first | omega | (simp only [lens]; omega))) ?_)
 refine wlo 5 6 rfl rfl rfl (wo_run rfl rfl (run_add rfl rfl rfl (by first | omega | (simp only [lens]; omega))) ?_)
 refine wla 6 7 rfl rfl rfl rfl rfl rfl rfl ?_
 refine wl_end rfl ?_
 refine nm_sub [(1, _), (3, _), (4, _), (5, _)] ⟨rfl, rfl, rfl, rfl, trivial⟩ ?_
 refine nm_thn ?_
 refine ws_seqN BracketOf_n9 BracketOf_n10 rfl rfl rfl ?_
 refine ws_seqN BracketOf_n11 BracketOf_n12 rfl rfl rfl ?_
 refine ws_eq 5 (.int .i64 (wdN d : Int)) rfl (int_eq (by rw [wdN_eq hlo.1])) ?_
 have hw9 := wdN_eq hlo.1
 refine ws_region rfl ?_
 refine wla 0 1 rfl rfl rfl rfl rfl rfl rfl ?_
 refine wl_end rfl ?_
 refine nm_sub [(1, _), (3, _), (4, _), (5, _), (6, _)] ⟨rfl, rfl, rfl, rfl, rfl, trivial⟩ ?_
 refine nm_thn ?_
 refine ws_blockN BracketOf_n13 0 rfl rfl rfl ?_
 refine ws_loopE (fun mx_ ax_ wx_ => ∃ (s : Nat) (mn : List Int) (vrm : Value), mx_ = 2 ^ d.crs.length - s ∧ Env 121 [(1, .pointer (some ⟨gb1, 0, none⟩)), (3, .int .i64 (d.crs.length : Int)), (4, vrm), (5, .int .i64 (wdN d : Int)), (6, .int .i64 (s : Int))] ax_ ∧ SH wx_ M X [Rs.row cdInt vrm mn, Rs.box gb1 24 [.slice dcrsA d.crs.length dcrsc, .int .i64 d.loops]] ∧ s ≤ 2 ^ d.crs.length ∧ mn.length = (2 * d.crs.length + 1) * wdN d ∧ (∀ x, 0 ≤ ga mn x ∧ ga mn x ≤ s) ∧ TS d mn = sumP (gD d) s) rfl ?_ ?_
 ·intro ax_ hax_
  refine ⟨_, ⟨0, _, _, rfl, hax_.sub ⟨rfl, rfl, rfl, rfl, rfl, trivial⟩, S2.pick [0, 1] [_, _] (by decide) ⟨rfl, rfl, trivial⟩, ?hq1f0, ?hq1f1, ?hq1f2, ?hq1f3⟩⟩
  case hq1f0 => omega
  case hq1f1 => exact List.length_replicate ..
  case hq1f2 => (intro x; have h9 : ga (List.replicate ((2 * d.crs.length + 1) * wdN d) cdInt.z) x = 0 := rep0 _ x; rw [h9]; exact ⟨Int.le_refl _, Int.le_refl _⟩)
  case hq1f3 => exact TS_zero d _
 ·rintro m1 a1 w3 ⟨s, mn, vrm, rfl, he1, S3, hs, hml, hmb, hms⟩
  clear S2
  refine ws_in he1 (c := BracketOf_n14) rfl ?_
  clear he1 a1
  have hexb := expN_bd s d.crs.length
  refine ws_seqN BracketOf_n15 BracketOf_n16 rfl rfl rfl ?_
  refine ws_seqN BracketOf_n17 BracketOf_n18 rfl rfl rfl ?_
  refine ws_region rfl ?_
  refine wlm 0 1 rfl rfl rfl rfl rfl rfl rfl ?_
  refine wlm 1 2 rfl rfl rfl rfl rfl rfl rfl ?_
  refine wlo 2 3 rfl rfl rfl (wo_run rfl rfl (run_shl1N (n := d.crs.length) rfl rfl rfl (by first | omega | (simp only [lens]; omega))) ?_)
  refine wlo 3 4 rfl rfl rfl (wo_run rfl rfl (run_lss rfl rfl rfl) ?_)
  refine wl_end rfl ?_
  refine nm_sub [(1, _), (3, _), (4, _), (5, _), (6, _), (38, _)] ⟨rfl, rfl, rfl, rfl, rfl, rfl, trivial⟩ ?_
  refine nm_thn ?_
  refine ws_condN BracketOf_n19 BracketOf_n20 rfl rfl rfl rfl (fun hb38 => ?_) (fun hb38 => ?_)
  ·replace hb38 := of_decide_eq_true hb38
   refine ws_skip rfl ?_
   refine nm_sub [(1, _), (3, _), (4, _), (5, _), (6, _)] ⟨rfl, rfl, rfl, rfl, rfl, trivial⟩ ?_
   refine nm_thn ?_
   refine ws_seqN BracketOf_n21 BracketOf_n22 rfl rfl rfl ?_
   refine ws_blockN BracketOf_n23 1 rfl rfl rfl ?_
   refine ws_seqN BracketOf_n24 BracketOf_n25 rfl rfl rfl ?_
   refine ws_region rfl ?_
   refine wla 0 1 rfl rfl rfl rfl rfl rfl rfl ?_
   refine wl_end rfl ?_
   refine nm_thn ?_
   refine ws_seqN BracketOf_n26 BracketOf_n27 rfl rfl rfl ?_
   refine ws_seqN BracketOf_n28 BracketOf_n29 rfl rfl rfl ?_
   refine ws_region rfl ?_
   refine wla 0 1 rfl rfl rfl rfl rfl rfl rfl ?_
   refine wl_end rfl ?_
   refine nm_thn ?_
   refine ws_blockN BracketOf_n30 2 rfl rfl rfl ?_
   refine ws_loopE (fun mx_ ax_ wx_ => ∃ (k : Nat) (ex : Int), mx_ = d.crs.length - k ∧ Env 121 [(1, .pointer (some ⟨gb1, 0, none⟩)), (3, .int .i64 (d.crs.length : Int)), (4, vrm), (5, .int .i64 (wdN d : Int)), (6, .int .i64 (s : Int)), (7, .int .i64 ex), (8, .int .i64 (k : Int))] ax_ ∧ SH wx_ M X [Rs.row cdInt vrm mn, Rs.box gb1 24 [.slice dcrsA d.crs.length dcrsc, .int .i64 d.loops]] ∧ k ≤ d.crs.length ∧ ex = expN s k) rfl ?_ ?_
   ·intro ax_ hax_
    refine ⟨_, ⟨0, _, rfl, hax_.sub ⟨rfl, rfl, rfl, rfl, rfl, rfl, rfl, trivial⟩, S3.pick [0, 1] [_, _] (by decide) ⟨rfl, rfl, trivial⟩, ?hq2f0, ?hq2f1⟩⟩
    case hq2f0 => omega
    case hq2f1 => rfl
   ·rintro m2 a2 w4 ⟨k, ex, rfl, he2, S4, hk, hex⟩
    clear S3
    refine ws_in he2 (c := BracketOf_n31) rfl ?_
    clear he2 a2
    have hexk := expN_bd s k
    refine ws_seqN BracketOf_n32 BracketOf_n33 rfl rfl rfl ?_
    refine ws_seqN BracketOf_n34 BracketOf_n35 rfl rfl rfl ?_
    refine ws_region rfl ?_
    refine wlm 0 1 rfl rfl rfl rfl rfl rfl rfl ?_
    refine wlm 1 2 rfl rfl rfl rfl rfl rfl rfl ?_
    refine wlo 2 3 rfl rfl rfl (wo_run rfl rfl (run_lss rfl rfl rfl) ?_)
    refine wl_end rfl ?_
    refine nm_sub [(1, _), (3, _), (4, _), (5, _), (6, _), (7, _), (8, _), (43, _)] ⟨rfl, rfl, rfl, rfl, rfl, rfl, rfl, rfl, trivial⟩ ?_
    refine nm_thn ?_
    refine ws_condN BracketOf_n36 BracketOf_n37 rfl rfl rfl rfl (fun hb43 => ?_) (fun hb43 => ?_)
    ·replace hb43 := of_decide_eq_true hb43
     refine ws_skip rfl ?_
     refine nm_sub [(1, _), (3, _), (4, _), (5, _), (6, _), (7, _), (8, _)] ⟨rfl, rfl, rfl, rfl, rfl, rfl, rfl, trivial⟩ ?_
     refine nm_thn ?_
     refine ws_seqN BracketOf_n38 BracketOf_n39 rfl rfl rfl ?_
     refine ws_blockN BracketOf_n40 3 rfl rfl rfl ?_
     refine ws_seqN BracketOf_n41 BracketOf_n42 rfl rfl rfl ?_
     refine ws_region rfl ?_
     refine wlm 0 1 rfl rfl rfl rfl rfl rfl rfl ?_
     refine wlm 1 2 rfl rfl rfl rfl rfl rfl rfl ?_
     refine wlo 2 3 rfl rfl rfl (wo_run rfl rfl (run_shrN (s := s) (n := k) rfl rfl rfl (by first | omega | (simp only [lens]; omega))) ?_)
     refine wlo 3 4 rfl rfl rfl (wo_run rfl rfl (run_and1N (s := (s / 2 ^ k)) rfl rfl rfl) ?_)
     refine wlo 4 5 rfl rfl rfl (wo_run rfl rfl (run_eql rfl rfl rfl) ?_)
     refine wl_end rfl ?_
     refine nm_sub [(1, _), (3, _), (4, _), (5, _), (6, _), (7, _), (8, _), (50, _)] ⟨rfl, rfl, rfl, rfl, rfl, rfl, rfl, rfl, trivial⟩ ?_
     refine nm_thn ?_
     refine ws_condN BracketOf_n43 BracketOf_n44 rfl rfl rfl rfl (fun hb50 => ?_) (fun hb50 => ?_)
     ·replace hb50 := of_decide_eq_true hb50
      refine ws_region rfl ?_
      refine wlm 0 1 rfl rfl rfl rfl rfl rfl rfl ?_
      refine wlo 1 2 rfl rfl rfl (wo_run rfl rfl (run_add rfl rfl rfl (by first | omega | (simp only [lens]; omega))) ?_)
      refine wla 2 3 rfl rfl rfl rfl rfl rfl rfl ?_
      refine wl_end rfl ?_
      refine nm_blk ?_
      refine nm_sub [(1, _), (3, _), (4, _), (5, _), (6, _), (7, _), (8, _)] ⟨rfl, rfl, rfl, rfl, rfl, rfl, rfl, trivial⟩ ?_
      refine nm_thn ?_
      refine ws_region rfl ?_
      refine wlm 0 1 rfl rfl rfl rfl rfl rfl rfl ?_
      refine wlo 1 2 rfl rfl rfl (wo_run rfl rfl (run_add rfl rfl rfl (by first | omega | (simp only [lens]; omega))) ?_)
      refine wla 2 3 rfl rfl rfl rfl rfl rfl rfl ?_
      refine wl_end rfl ?_
      refine nm_lp ?_
      intro ax_ hax_
      refine ⟨_, ?hq3m, ⟨k + 1, ex + 1, rfl, hax_.sub ⟨rfl, rfl, rfl, rfl, rfl, rfl, rfl, trivial⟩, S4.pick [0, 1] [_, _] (by decide) ⟨rfl, rfl, trivial⟩, ?hq3f0, ?hq3f1⟩⟩
      case hq3f0 => omega
      case hq3f1 => (rw [expN]; first | (rw [if_pos (by unfold bitN; omega)]; omega) | (rw [if_neg (by unfold bitN; omega)]; omega))
      case hq3m => omega
     ·replace hb50 := of_decide_eq_false hb50
      refine ws_region rfl ?_
      refine wlm 0 1 rfl rfl rfl rfl rfl rfl rfl ?_
      refine wlo 1 2 rfl rfl rfl (wo_run rfl rfl (run_sub rfl rfl rfl (by first | omega | (simp only [lens]; omega))) ?_)
      refine wla 2 3 rfl rfl rfl rfl rfl rfl rfl ?_
      refine wl_end rfl ?_
      refine nm_blk ?_
      refine nm_sub [(1, _), (3, _), (4, _), (5, _), (6, _), (7, _), (8, _)] ⟨rfl, rfl, rfl, rfl, rfl, rfl, rfl, trivial⟩ ?_
      refine nm_thn ?_
      refine ws_region rfl ?_
      refine wlm 0 1 rfl rfl rfl rfl rfl rfl rfl ?_
      refine wlo 1 2 rfl rfl rfl (wo_run rfl rfl (run_add rfl rfl rfl (by first | omega | (simp only [lens]; omega))) ?_)
      refine wla 2 3 rfl rfl rfl rfl rfl rfl rfl ?_
      refine wl_end rfl ?_
      refine nm_lp ?_
      intro ax_ hax_
      refine ⟨_, ?hq4m, ⟨k + 1, ex - 1, rfl, hax_.sub ⟨rfl, rfl, rfl, rfl, rfl, rfl, rfl, trivial⟩, S4.pick [0, 1] [_, _] (by decide) ⟨rfl, rfl, trivial⟩, ?hq4f0, ?hq4f1⟩⟩
      case hq4f0 => omega
      case hq4f1 => (rw [expN]; first | (rw [if_pos (by unfold bitN; omega)]; omega) | (rw [if_neg (by unfold bitN; omega)]; omega))
      case hq4m => omega
    ·replace hb43 := of_decide_eq_false hb43
     refine ws_exit rfl rfl ?_
     refine nm_sub [(1, _), (3, _), (4, _), (5, _), (6, _), (7, _)] ⟨rfl, rfl, rfl, rfl, rfl, rfl, trivial⟩ ?_
     refine nm_thn ?_
     have hke : k = d.crs.length := by omega
     subst hex
     obtain ⟨hkd, hk1, hk2⟩ := kD_bd hab hlo.1 hne s
     obtain ⟨ix9, hix⟩ : ∃ ix9 : Nat, expN s k + (d.crs.length : Int) = (ix9 : Int) := ⟨(expN s k + (d.crs.length : Int)).toNat, by omega⟩
     have hixm := ix_bd hn hlo (q := ix9) (by omega) hix
     have hix9 : ix9 < 2 * d.crs.length + 1 := by omega
     have hixl := ix_lt (d := d) hix9 hk2
     rw [hke] at hix
     refine ws_region rfl ?_
     refine wlm 0 1 rfl rfl rfl rfl rfl rfl rfl ?_
     refine wlm 1 2 rfl rfl rfl rfl rfl rfl rfl ?_
     refine wlm 2 3 rfl rfl rfl rfl rfl rfl rfl ?_
     refine wlo 3 4 rfl rfl rfl (wo_run rfl rfl (run_add rfl rfl rfl (by first | omega | (simp only [lens]; omega))) ?_)
     refine wlm 4 5 rfl rfl rfl rfl rfl rfl rfl ?_
     refine wlo 5 6 rfl rfl rfl (wo_run rfl rfl (run_mul rfl rfl rfl (by first | omega | (simp only [lens]; omega))) ?_)
     refine wlo 6 7 rfl rfl rfl (wo_run rfl rfl (run_loadN (us := [_, _]) rfl rfl Tryd.underlying24 rfl sz24 (S4.boxcs (i := 1) rfl ⟨rfl, rfl, trivial⟩)) ?_)
     refine wlm 7 8 rfl rfl rfl rfl rfl rfl rfl ?_
     refine wlo 8 9 rfl rfl rfl (wo_cq rfl rfl rfl rfl rfl rfl rfl cf17 S4 (ringsOf_q d s (hdcrs.mono S4.un_XH) (hn) (hab) (hlo) S4.lend) ?_)
     rintro _ w5 S5 rfl; clear S4
     refine wlo 9 10 rfl rfl rfl (wo_run rfl rfl (run_add rfl rfl rfl (by first | omega | (simp only [lens]; omega))) ?_)
     refine wl_eq 64 (.int .i64 ((ix9 * wdN d + kD d s : Nat) : Int)) rfl (int_eq (ix_eq (by rw [hke]; exact hix) rfl hkd)) ?_
     have hmx := hmb (ix9 * wdN d + kD d s)
     refine wlo 10 11 rfl rfl rfl (wo_run rfl rfl (run_indexR (C := cdInt) (i := 0) (ix9 * wdN d + kD d s) rfl rfl rfl sl46 S5 rfl (by first | rfl | omega) (by first | omega | (simp only [lens]; omega))) ?_)
     refine wlo 11 12 rfl rfl rfl (wo_run rfl rfl (run_load1 rfl rfl Tryd.underlying3 rfl (S5.rowc (i := 0) (e := ix9 * wdN d + kD d s) (j := 0) rfl (by first | omega | (simp only [lens]; omega)) rfl rfl)) ?_)
     refine wlo 12 13 rfl rfl rfl (wo_run rfl rfl (run_add rfl rfl rfl (by first | omega | (simp only [lens]; omega))) ?_)
     refine wlo 13 14 rfl rfl rfl (wo_run rfl rfl (run_indexR (C := cdInt) (i := 0) (ix9 * wdN d + kD d s) rfl rfl rfl sl46 S5 rfl (by first | rfl | omega) (by first | omega | (simp only [lens]; omega))) ?_)
     refine wlo 14 15 rfl rfl rfl (wo_storeR (C := cdInt) (i := 0) (e := ix9 * wdN d + kD d s) (j := 0) (us := [_]) (H' := [_, _]) ((ga mn (ix9 * wdN d + kD d s)) + 1) rfl rfl S5 rfl (by first | omega | (simp only [lens]; omega)) rfl rfl rfl sz3 rfl rfl rfl rfl ?_)
     intro w6 S6; clear S5
     refine wl_end rfl ?_
     refine nm_blk ?_
     refine nm_sub [(1, _), (3, _), (4, _), (5, _), (6, _)] ⟨rfl, rfl, rfl, rfl, rfl, trivial⟩ ?_
     refine nm_thn ?_
     refine ws_region rfl ?_
     refine wlm 0 1 rfl rfl rfl rfl rfl rfl rfl ?_
     refine wlo 1 2 rfl rfl rfl (wo_run rfl rfl (run_add rfl rfl rfl (by first | omega | (simp only [lens]; omega))) ?_)
     refine wla 2 3 rfl rfl rfl rfl rfl rfl rfl ?_
     refine wl_end rfl ?_
     refine nm_lp ?_
     intro ax_ hax_
     refine ⟨_, ?hq5m, ⟨s + 1, mn.set (ix9 * wdN d + kD d s) ((ga mn (ix9 * wdN d + kD d s)) + 1), _, rfl, hax_.sub ⟨rfl, rfl, rfl, rfl, rfl, trivial⟩, S6.pick [0, 1] [_, _] (by decide) ⟨rfl, rfl, trivial⟩, ?hq5f0, ?hq5f1, ?hq5f2, ?hq5f3⟩⟩
     case hq5f0 => omega
     case hq5f1 => (rw [List.length_set]; exact hml)
     case hq5f2 => (intro x; rw [ga_set _ _ _ _ (by rw [hml]; exact hixl)]; have h1 := hmb x; have h2 := hmb (ix9 * wdN d + kD d s); split <;> omega)
     case hq5f3 => (rw [TS_upd ⟨hk1, hk2⟩ hix9 (by rw [hml]; exact hixl), hms]; show _ = sumP (gD d) s + gD d s; refine Pol.add_l _ ?_; unfold gD; rw [show ((ix9 : Nat) : Int) - (d.crs.length : Int) = expN s d.crs.length by omega])
     case hq5m => omega
  ·replace hb38 := of_decide_eq_false hb38
   refine ws_exit rfl rfl ?_
   refine nm_sub [(3, _), (4, _), (5, _)] ⟨rfl, rfl, rfl, trivial⟩ ?_
   refine nm_thn ?_
   refine ws_seqN BracketOf_n45 BracketOf_n46 rfl rfl rfl ?_
   refine ws_region rfl ?_
   refine wla 0 1 rfl rfl rfl rfl rfl rfl rfl ?_
   refine wl_end rfl ?_
   refine nm_thn ?_
   refine ws_seqN BracketOf_n47 BracketOf_n48 rfl rfl rfl ?_
   refine ws_seqN BracketOf_n49 BracketOf_n50 rfl rfl rfl ?_
   refine ws_region rfl ?_
   refine wla 0 1 rfl rfl rfl rfl rfl rfl rfl ?_
   refine wl_end rfl ?_
   refine nm_thn ?_
   refine ws_blockN BracketOf_n51 4 rfl rfl rfl ?_
   refine ws_loopE (fun mx_ ax_ wx_ => ∃ (r : Nat) (acc : List Tm) (Ao : Option Addr) (co : Nat) (M1 : Hp), M.le M1 ∧ mx_ = wdN d - r ∧ Env 121 [(3, .int .i64 (d.crs.length : Int)), (4, vrm), (5, .int .i64 (wdN d : Int)), (9, .slice Ao acc.length co), (10, .int .i64 ((r + 1 : Nat) : Int))] ax_ ∧ SH wx_ M1 X [Rs.row cdInt vrm mn] ∧ RdA cdTm M1 Ao co acc ∧ r + 1 ≤ wdN d ∧ Can acc ∧ Bd acc 92 ∧ mk (pr acc) = sumP (fun x => rowS d mn (x + 1)) r) rfl ?_ ?_
   ·intro ax_ hax_
    refine ⟨_, ⟨0, [], none, 0, _, Hp.le_refl _, rfl, hax_.sub ⟨rfl, rfl, rfl, rfl, rfl, trivial⟩, S3.pick [0] [_] (by decide) ⟨rfl, trivial⟩, ?hq6f0, ?hq6f1, ?hq6f2, ?hq6f3, ?hq6f4⟩⟩
    case hq6f0 => exact RdA.nil_
    case hq6f1 => omega
    case hq6f2 => exact Can.nil_
    case hq6f3 => (intro t ht; simp at ht)
    case hq6f4 => rfl
   ·rintro m3 a3 w7 ⟨r, acc, Ao, co, M1, hle3, rfl, he3, S7, hacc, hr, hcc, hbc, hmc⟩
    clear S3
    refine ws_in he3 (c := BracketOf_n52) rfl ?_
    clear he3 a3
    replace hdcrs := hdcrs.mono (Hp.un_mono hle3 S7.mx)
    refine ws_seqN BracketOf_n53 BracketOf_n54 rfl rfl rfl ?_
    refine ws_seqN BracketOf_n55 BracketOf_n56 rfl rfl rfl ?_
    refine ws_region rfl ?_
    refine wlm 0 1 rfl rfl rfl rfl rfl rfl rfl ?_
    refine wlm 1 2 rfl rfl rfl rfl rfl rfl rfl ?_
    refine wlo 2 3 rfl rfl rfl (wo_run rfl rfl (run_lss rfl rfl rfl) ?_)
    refine wl_end rfl ?_
    refine nm_sub [(3, _), (4, _), (5, _), (9, _), (10, _), (71, _)] ⟨rfl, rfl, rfl, rfl, rfl, rfl, trivial⟩ ?_
    refine nm_thn ?_
    refine ws_condN BracketOf_n57 BracketOf_n58 rfl rfl rfl rfl (fun hb71 => ?_) (fun hb71 => ?_)
    ·replace hb71 := of_decide_eq_true hb71
     refine ws_skip rfl ?_
     refine nm_sub [(3, _), (4, _), (5, _), (9, _), (10, _)] ⟨rfl, rfl, rfl, rfl, rfl, trivial⟩ ?_
     refine nm_thn ?_
     refine ws_seqN BracketOf_n59 BracketOf_n60 rfl rfl rfl ?_
     refine ws_blockN BracketOf_n61 5 rfl rfl rfl ?_
     refine ws_seqN BracketOf_n62 BracketOf_n63 rfl rfl rfl ?_
     refine ws_region rfl ?_
     refine wlm 0 1 rfl rfl rfl rfl rfl rfl rfl ?_
     refine wlo 1 2 rfl rfl rfl (wo_run rfl rfl (run_sub rfl rfl rfl (by first | omega | (simp only [lens]; omega))) ?_)
     refine wl_eq 75 (.int .i64 (r : Int)) rfl (int_eq (by omega)) ?_
     refine wlo 2 3 rfl rfl rfl (wo_ct rfl rfl rfl rfl rfl rfl rfl cf18 S7 (ringPower_t r (by omega) S7.lend) ?_)
     intro vw8 w8 M2 hle4 S8 hRw8; clear S7
     replace hdcrs := hdcrs.mono (Hp.un_mono hle4 S8.mx)
     replace hacc := hacc.mono hle4
     obtain ⟨A1, c1, l1, rfl, hr1, hcan1, hbd1, hmk1⟩ := hRw8
     refine wla 3 4 rfl rfl rfl rfl rfl rfl rfl ?_
     refine wl_end rfl ?_
     refine nm_sub [(3, _), (4, _), (5, _), (9, _), (10, _), (11, _)] ⟨rfl, rfl, rfl, rfl, rfl, rfl, trivial⟩ ?_
     refine nm_thn ?_
     refine ws_seqN BracketOf_n64 BracketOf_n65 rfl rfl rfl ?_
     have hcn8 := hcan1
     have hbd8 := hbd1
     have hmk8 := hmk1
     refine ws_region rfl ?_
     refine wlm 0 1 rfl rfl rfl rfl rfl rfl rfl ?_
     refine wlo 1 2 rfl rfl rfl (wo_run rfl rfl (run_neg rfl rfl (by first | omega | (simp only [lens]; omega))) ?_)
     refine wl_eq 78 (.int .i64 (((0 : Nat) : Int) - (d.crs.length : Int))) rfl (int_eq (by omega)) ?_
     refine wla 2 3 rfl rfl rfl rfl rfl rfl rfl ?_
     refine wl_end rfl ?_
     refine nm_sub [(3, _), (4, _), (5, _), (9, _), (10, _), (11, _), (12, _)] ⟨rfl, rfl, rfl, rfl, rfl, rfl, rfl, trivial⟩ ?_
     refine nm_thn ?_
     refine ws_blockN BracketOf_n66 6 rfl rfl rfl ?_
     refine ws_loopE (fun mx_ ax_ wx_ => ∃ (q : Nat) (acc2 : List Tm) (Ao2 : Option Addr) (co2 : Nat) (M3 : Hp), M2.le M3 ∧ mx_ = 2 * d.crs.length + 1 - q ∧ Env 121 [(3, .int .i64 (d.crs.length : Int)), (4, vrm), (5, .int .i64 (wdN d : Int)), (9, .slice Ao2 acc2.length co2), (10, .int .i64 ((r + 1 : Nat) : Int)), (11, .slice A1 l1.length c1), (12, .int .i64 ((q : Int) - (d.crs.length : Int)))] ax_ ∧ SH wx_ M3 X [Rs.row cdInt vrm mn] ∧ RdA cdTm M3 Ao2 co2 acc2 ∧ q ≤ 2 * d.crs.length + 1 ∧ Can acc2 ∧ Bd acc2 92 ∧ mk (pr acc2) = sumP (fun x => rowS d mn (x + 1)) r + sumP (fun e => cw d mn (r + 1) e) q) rfl ?_ ?_
     ·intro ax_ hax_
      refine ⟨_, ⟨0, acc, Ao, co, _, Hp.le_refl _, rfl, hax_.sub ⟨rfl, rfl, rfl, rfl, rfl, rfl, rfl, trivial⟩, S8.pick [0] [_] (by decide) ⟨rfl, trivial⟩, ?hq7f0, ?hq7f1, ?hq7f2, ?hq7f3, ?hq7f4⟩⟩
      case hq7f0 => exact hacc
      case hq7f1 => omega
      case hq7f2 => exact hcc
      case hq7f3 => exact hbc
      case hq7f4 => (rw [hmc]; exact (Pol.add_zero _).symm)
     ·rintro m4 a4 w9 ⟨q, acc2, Ao2, co2, M3, hle5, rfl, he4, S9, hacc2, hq, hcc2, hbc2, hmc2⟩
      clear S8
      refine ws_in he4 (c := BracketOf_n67) rfl ?_
      clear he4 a4
      replace hdcrs := hdcrs.mono (Hp.un_mono hle5 S9.mx)
      replace hacc := hacc.mono hle5
      replace hr1 := hr1.mono hle5
      refine ws_seqN BracketOf_n68 BracketOf_n69 rfl rfl rfl ?_
      refine ws_seqN BracketOf_n70 BracketOf_n71 rfl rfl rfl ?_
      refine ws_region rfl ?_
      refine wlm 0 1 rfl rfl rfl rfl rfl rfl rfl ?_
      refine wlm 1 2 rfl rfl rfl rfl rfl rfl rfl ?_
      refine wlo 2 3 rfl rfl rfl (wo_run rfl rfl (run_leq rfl rfl rfl) ?_)
      refine wl_end rfl ?_
      refine nm_sub [(3, _), (4, _), (5, _), (9, _), (10, _), (11, _), (12, _), (81, _)] ⟨rfl, rfl, rfl, rfl, rfl, rfl, rfl, rfl, trivial⟩ ?_
      refine nm_thn ?_
      refine ws_condN BracketOf_n72 BracketOf_n73 rfl rfl rfl rfl (fun hb81 => ?_) (fun hb81 => ?_)
      ·replace hb81 := of_decide_eq_true hb81
       refine ws_skip rfl ?_
       refine nm_sub [(3, _), (4, _), (5, _), (9, _), (10, _), (11, _), (12, _)] ⟨rfl, rfl, rfl, rfl, rfl, rfl, rfl, trivial⟩ ?_
       refine nm_thn ?_
       refine ws_seqN BracketOf_n74 BracketOf_n75 rfl rfl rfl ?_
       refine ws_blockN BracketOf_n76 7 rfl rfl rfl ?_
       refine ws_seqN BracketOf_n77 BracketOf_n78 rfl rfl rfl ?_
       have hqm := ix_bd hn hlo (q := q) (by omega) (a := (q : Int) - (d.crs.length : Int) + (d.crs.length : Int)) (by omega)
       refine ws_region rfl ?_
       refine wlm 0 1 rfl rfl rfl rfl rfl rfl rfl ?_
       refine wlm 1 2 rfl rfl rfl rfl rfl rfl rfl ?_
       refine wlm 2 3 rfl rfl rfl rfl rfl rfl rfl ?_
       refine wlo 3 4 rfl rfl rfl (wo_run rfl rfl (run_add rfl rfl rfl (by first | omega | (simp only [lens]; omega))) ?_)
       refine wlm 4 5 rfl rfl rfl rfl rfl rfl rfl ?_
       refine wlo 5 6 rfl rfl rfl (wo_run rfl rfl (run_mul rfl rfl rfl (by first | omega | (simp only [lens]; omega))) ?_)
       refine wlm 6 7 rfl rfl rfl rfl rfl rfl rfl ?_
       refine wlo 7 8 rfl rfl rfl (wo_run rfl rfl (run_add rfl rfl rfl (by first | omega | (simp only [lens]; omega))) ?_)
       refine wl_eq 91 (.int .i64 ((q * wdN d + (r + 1) : Nat) : Int)) rfl (int_eq (ix_eq (by omega) rfl rfl)) ?_
       have hixl3 := ix_lt (d := d) (q := q) (r := r + 1) (by omega) (by omega)
       refine wlo 8 9 rfl rfl rfl (wo_run rfl rfl (run_indexR (C := cdInt) (i := 0) (q * wdN d + (r + 1)) rfl rfl rfl sl46 S9 rfl (by first | rfl | omega) (by first | omega | (simp only [lens]; omega))) ?_)
       refine wlo 9 10 rfl rfl rfl (wo_run rfl rfl (run_load1 rfl rfl Tryd.underlying3 rfl (S9.rowc (i := 0) (e := q * wdN d + (r + 1)) (j := 0) rfl (by first | omega | (simp only [lens]; omega)) rfl rfl)) ?_)
       refine wla 10 11 rfl rfl rfl rfl rfl rfl rfl ?_
       refine wl_end rfl ?_
       refine nm_sub [(3, _), (4, _), (5, _), (9, _), (10, _), (11, _), (12, _), (13, _)] ⟨rfl, rfl, rfl, rfl, rfl, rfl, rfl, rfl, trivial⟩ ?_
       refine nm_thn ?_
       refine ws_seqN BracketOf_n79 BracketOf_n80 rfl rfl rfl ?_
       obtain ⟨c9, hc9⟩ : ∃ c9, c9 = ga mn (q * wdN d + (r + 1)) := ⟨_, rfl⟩
       have hcb := hmb (q * wdN d + (r + 1))
       rw [← hc9] at hcb
       refine ws_eq 13 (.int .i64 c9) rfl (int_eq hc9.symm) ?_
       refine ws_region rfl ?_
       refine wla 0 1 rfl rfl rfl rfl rfl rfl rfl ?_
       refine wl_end rfl ?_
       refine nm_sub [(3, _), (4, _), (5, _), (9, _), (10, _), (11, _), (12, _), (13, _), (14, _)] ⟨rfl, rfl, rfl, rfl, rfl, rfl, rfl, rfl, rfl, trivial⟩ ?_
       refine nm_thn ?_
       refine ws_blockN BracketOf_n81 8 rfl rfl rfl ?_
       refine ws_loopE (fun mx_ ax_ wx_ => ∃ (i : Nat) (acc3 : List Tm) (Ao3 : Option Addr) (co3 : Nat) (M4 : Hp), M3.le M4 ∧ mx_ = l1.length - i ∧ Env 121 [(3, .int .i64 (d.crs.length : Int)), (4, vrm), (5, .int .i64 (wdN d : Int)), (9, .slice Ao3 acc3.length co3), (10, .int .i64 ((r + 1 : Nat) : Int)), (11, .slice A1 l1.length c1), (12, .int .i64 ((q : Int) - (d.crs.length : Int))), (13, .int .i64 c9), (14, .int .i64 (i : Int))] ax_ ∧ SH wx_ M4 X [Rs.row cdInt vrm mn] ∧ RdA cdTm M4 Ao3 co3 acc3 ∧ i ≤ l1.length ∧ Can acc3 ∧ Bd acc3 92 ∧ mk (pr acc3) = sumP (fun x => rowS d mn (x + 1)) r + sumP (fun e => cw d mn (r + 1) e) q + mk (pr (l1.take i)) * mono ((q : Int) - (d.crs.length : Int)) c9) rfl ?_ ?_
       ·intro ax_ hax_
        refine ⟨_, ⟨0, acc2, Ao2, co2, _, Hp.le_refl _, rfl, hax_.sub ⟨rfl, rfl, rfl, rfl, rfl, rfl, rfl, rfl, rfl, trivial⟩, S9.pick [0] [_] (by decide) ⟨rfl, trivial⟩, ?hq8f0, ?hq8f1, ?hq8f2, ?hq8f3, ?hq8f4⟩⟩
        case hq8f0 => exact hacc2
        case hq8f1 => omega
        case hq8f2 => exact hcc2
        case hq8f3 => exact hbc2
        case hq8f4 => (rw [hmc2, List.take_zero]; show _ = _ + Pol.o * _; rw [Pol.zero_mul, Pol.add_zero])
       ·rintro m5 a5 w10 ⟨i, acc3, Ao3, co3, M4, hle6, rfl, he5, S10, hacc3, hi, hcc3, hbc3, hmc3⟩
        clear S9
        refine ws_in he5 (c := BracketOf_n82) rfl ?_
        clear he5 a5
        replace hdcrs := hdcrs.mono (Hp.un_mono hle6 S10.mx)
        replace hacc := hacc.mono hle6
        replace hr1 := hr1.mono hle6
        replace hacc2 := hacc2.mono hle6
        have hll := can_len hcn8 hbd8
        refine ws_seqN BracketOf_n83 BracketOf_n84 rfl rfl rfl ?_
        refine ws_seqN BracketOf_n85 BracketOf_n86 rfl rfl rfl ?_
        refine ws_region rfl ?_
        refine wlm 0 1 rfl rfl rfl rfl rfl rfl rfl ?_
        refine wlm 1 2 rfl rfl rfl rfl rfl rfl rfl ?_
        refine wlo 2 3 rfl rfl rfl (wo_run rfl rfl (run_len rfl rfl rfl rfl rfl rfl Tryd.underlying25) ?_)
        refine wlo 3 4 rfl rfl rfl (wo_run rfl rfl (run_lss rfl rfl rfl) ?_)
        refine wlm 4 5 rfl rfl rfl rfl rfl rfl rfl ?_
        refine wl_split (t := 98) rfl (fun hg98 => ?_) (fun hg98 => ?_)
        ·replace hg98 := of_decide_eq_true hg98
         refine wl_opG (k := 5) (k' := 6) rfl rfl ⟨_, _, _, rfl, rfl, rfl, rfl⟩ rfl (wo_run rfl rfl (run_move rfl rfl) ?_)
         refine wl_opG (k := 6) (k' := 7) rfl rfl ⟨_, _, _, rfl, rfl, rfl, rfl⟩ rfl (wo_run rfl rfl (run_gtr rfl rfl rfl) ?_)
         refine wlo 7 8 rfl rfl rfl (wo_run rfl rfl (run_pickT rfl rfl rfl) ?_)
         refine wl_end rfl ?_
         refine nm_sub [(3, _), (4, _), (5, _), (9, _), (10, _), (11, _), (12, _), (13, _), (14, _), (101, _)] ⟨rfl, rfl, rfl, rfl, rfl, rfl, rfl, rfl, rfl, rfl, trivial⟩ ?_
         refine nm_thn ?_
         refine ws_condN BracketOf_n87 BracketOf_n88 rfl rfl rfl rfl (fun hb101 => ?_) (fun hb101 => ?_)
         ·replace hb101 := of_decide_eq_true hb101
          refine ws_skip rfl ?_
          refine nm_sub [(3, _), (4, _), (5, _), (9, _), (10, _), (11, _), (12, _), (13, _), (14, _)] ⟨rfl, rfl, rfl, rfl, rfl, rfl, rfl, rfl, rfl, trivial⟩ ?_
          refine nm_thn ?_
          refine ws_seqN BracketOf_n89 BracketOf_n90 rfl rfl rfl ?_
          refine ws_blockN BracketOf_n91 9 rfl rfl rfl ?_
          have hbi := bd_at hbd8 (i := i) (by omega)
          refine ws_draw rfl (by kernel_rfl) S10 17 rfl ?_
          clear S10
          refine wa_takeP (i := 0) (d := 104) 16 rfl (by kernel_rfl) (by kernel_rfl) (by kernel_rfl) rfl rfl rfl (fun w11 => run_move rfl rfl) ?_
          refine wa_takeP (i := 1) (d := 105) 15 rfl (by kernel_rfl) (by kernel_rfl) (by kernel_rfl) rfl rfl rfl (fun w12 => run_move rfl rfl) ?_
          refine wa_takeP (i := 2) (d := 106) 14 rfl (by kernel_rfl) (by kernel_rfl) (by kernel_rfl) rfl rfl rfl (fun w13 => run_move rfl rfl) ?_
          refine wa_take (i := 3) (d := 107) 13 rfl (by kernel_rfl) (by kernel_rfl) (by kernel_rfl) rfl rfl rfl (fun M8 N4 w14 hle10 S14 => .inl (run_indexM (C := cdTm) i rfl rfl rfl sl25 (by first | rfl | omega) (hr1.mono hle10) (by first | omega | (simp only [lens]; omega)))) ?_
          refine wa_takeP (i := 4) (d := 108) 12 rfl (by kernel_rfl) (by kernel_rfl) (by kernel_rfl) rfl rfl rfl (fun w15 => run_fieldAddr rfl rfl Tryd.underlying45 rfl (ce3) (nf3)) ?_
          refine wa_take (i := 5) (d := 109) 11 rfl (by kernel_rfl) (by kernel_rfl) (by kernel_rfl) rfl rfl rfl (fun M10 N6 w16 hle12 S16 => .inl (run_load1 rfl rfl Tryd.underlying3 rfl ((hr1.mono hle12).cell S16.m (i := i) (by first | omega | (simp only [lens]; omega)) 0 rfl rfl))) ?_
          refine wa_takeP (i := 6) (d := 110) 10 rfl (by kernel_rfl) (by kernel_rfl) (by kernel_rfl) rfl rfl rfl (fun w17 => run_move rfl rfl) ?_
          refine wa_takeP (i := 7) (d := 111) 9 rfl (by kernel_rfl) (by kernel_rfl) (by kernel_rfl) rfl rfl rfl (fun w18 => run_add rfl rfl rfl (by first | omega | (simp only [lens]; omega))) ?_
          refine wa_takeP (i := 8) (d := 112) 8 rfl (by kernel_rfl) (by kernel_rfl) (by kernel_rfl) rfl rfl rfl (fun w19 => run_move rfl rfl) ?_
          refine wa_takeP (i := 9) (d := 113) 7 rfl (by kernel_rfl) (by kernel_rfl) (by kernel_rfl) rfl rfl rfl (fun w20 => run_move rfl rfl) ?_
          refine wa_takeP (i := 10) (d := 114) 6 rfl (by kernel_rfl) (by kernel_rfl) (by kernel_rfl) rfl rfl rfl (fun w21 => run_move rfl rfl) ?_
          refine wa_take (i := 11) (d := 115) 5 rfl (by kernel_rfl) (by kernel_rfl) (by kernel_rfl) rfl rfl rfl (fun M16 N12 w22 hle18 S22 => .inl (run_indexM (C := cdTm) i rfl rfl rfl sl25 (by first | rfl | omega) (hr1.mono hle18) (by first | omega | (simp only [lens]; omega)))) ?_
          refine wa_takeP (i := 12) (d := 116) 4 rfl (by kernel_rfl) (by kernel_rfl) (by kernel_rfl) rfl rfl rfl (fun w23 => run_fieldAddr rfl rfl Tryd.underlying45 rfl (ce3) (nf3)) ?_
          refine wa_take (i := 13) (d := 117) 3 rfl (by kernel_rfl) (by kernel_rfl) (by kernel_rfl) rfl rfl rfl (fun M18 N14 w24 hle20 S24 => .inl (run_load1 rfl rfl Tryd.underlying3 rfl ((hr1.mono hle20).cell S24.m (i := i) (by first | omega | (simp only [lens]; omega)) 1 rfl rfl))) ?_
          refine wa_takeP (i := 14) (d := 118) 2 rfl (by kernel_rfl) (by kernel_rfl) (by kernel_rfl) rfl rfl rfl (fun w25 => run_mulW rfl rfl rfl) ?_
          refine wa_only (i := 15) 1 rfl (by kernel_rfl) rfl rfl (fun w27 S27 => ?_)
          refine (wo_ct rfl rfl rfl rfl rfl rfl rfl cf19 S27 (Put_t acc3 (((ga l1 i).e) + ((q : Int) - (d.crs.length : Int))) (wr (c9 * ((ga l1 i).c))) hacc3 ((by have := can_len hcc3 hbc3; omega)) S27.lend) ?_)
          intro vw28 w28 M21 hle23 S28 hRw28; clear S27
          replace hdcrs := hdcrs.mono (Hp.un_mono hle23 S28.mx)
          replace hacc := hacc.mono hle23
          replace hr1 := hr1.mono hle23
          replace hacc2 := hacc2.mono hle23
          replace hacc3 := hacc3.mono hle23
          obtain ⟨A2, c2, rfl, hr2⟩ := hRw28
          refine LeftW.grow [] (hle23) S28 ?_; clear S28
          change WA _ _ _ _ _ _ _ _ _ _ _ _ [_]
          refine wa_base ?_
          refine wa_takeP (i := 16) (d := 9) 0 rfl (by kernel_rfl) (by kernel_rfl) (by kernel_rfl) rfl rfl rfl (fun w29 => run_assign rfl rfl) ?_
          refine wa_end (by kernel_rfl) (fun w30 S30 => ?_)
          refine nm_blk ?_
          refine nm_sub [(3, _), (4, _), (5, _), (9, _), (10, _), (11, _), (12, _), (13, _), (14, _)] ⟨rfl, rfl, rfl, rfl, rfl, rfl, rfl, rfl, rfl, trivial⟩ ?_
          refine nm_thn ?_
          refine ws_region rfl ?_
          refine wlm 0 1 rfl rfl rfl rfl rfl rfl rfl ?_
          refine wlo 1 2 rfl rfl rfl (wo_run rfl rfl (run_add rfl rfl rfl (by first | omega | (simp only [lens]; omega))) ?_)
          refine wla 2 3 rfl rfl rfl rfl rfl rfl rfl ?_
          refine wl_end rfl ?_
          refine nm_lp ?_
          have hbi := bd_at hbd8 (i := i) (by omega)
          intro ax_ hax_
          refine ⟨_, ?hq9m, ⟨i + 1, (put acc3 (((ga l1 i).e) + ((q : Int) - (d.crs.length : Int))) (wr (c9 * ((ga l1 i).c)))), A2, c2, _, (hle6.trans hle23), rfl, hax_.sub ⟨rfl, rfl, rfl, rfl, rfl, rfl, rfl, rfl, rfl, trivial⟩, S30.pick [0] [_] (by decide) ⟨rfl, trivial⟩, ?hq9f0, ?hq9f1, ?hq9f2, ?hq9f3, ?hq9f4⟩⟩
          case hq9f0 => exact hr2
          case hq9f1 => omega
          case hq9f2 => exact put_can hcc3 (wr_id (by omega)) (wr_idem _)
          case hq9f3 => exact put_bd hbc3 (by omega)
          case hq9f4 => (rw [mk_put]; exact coef_step (by omega) _ _ hmc3)
          case hq9m => omega
         ·replace hb101 := of_decide_eq_false hb101
          refine ws_exit rfl rfl ?_
          refine nm_blk ?_
          refine nm_sub [(3, _), (4, _), (5, _), (9, _), (10, _), (11, _), (12, _)] ⟨rfl, rfl, rfl, rfl, rfl, rfl, rfl, trivial⟩ ?_
          refine nm_thn ?_
          refine ws_region rfl ?_
          refine wlm 0 1 rfl rfl rfl rfl rfl rfl rfl ?_
          refine wlo 1 2 rfl rfl rfl (wo_run rfl rfl (run_add rfl rfl rfl (by first | omega | (simp only [lens]; omega))) ?_)
          refine wl_eq 83 (.int .i64 (((q + 1 : Nat) : Int) - (d.crs.length : Int))) rfl (int_eq (by omega)) ?_
          refine wla 2 3 rfl rfl rfl rfl rfl rfl rfl ?_
          refine wl_end rfl ?_
          refine nm_lp ?_
          intro ax_ hax_
          refine ⟨_, ?hq10m, ⟨q + 1, acc3, Ao3, co3, _, (hle5.trans hle6), rfl, hax_.sub ⟨rfl, rfl, rfl, rfl, rfl, rfl, rfl, trivial⟩, S10.pick [0] [_] (by decide) ⟨rfl, trivial⟩, ?hq10f0, ?hq10f1, ?hq10f2, ?hq10f3, ?hq10f4⟩⟩
          case hq10f0 => exact hacc3
          case hq10f1 => omega
          case hq10f2 => exact hcc3
          case hq10f3 => exact hbc3
          case hq10f4 => (have e1 : sumP (fun e => cw d mn (r + 1) e) (q + 1) = sumP (fun e => cw d mn (r + 1) e) q + cw d mn (r + 1) q := rfl; rw [hmc3, e1, ← Pol.add_assoc]; refine Pol.add_l _ ?_; unfold cw; rw [← hc9, Nat.add_sub_cancel]; first | (rw [show i = l1.length by omega, List.take_length, hmk8]) | (rw [show c9 = 0 by omega, mono_zero, Pol.mul_zero, Pol.mul_zero]))
          case hq10m => omega
        ·replace hg98 := of_decide_eq_false hg98
         refine wl_no (k := 5) (k' := 6) (d := 99) rfl rfl ⟨_, _, _, rfl, rfl, rfl, rfl⟩ rfl rfl ?_
         refine wl_no (k := 6) (k' := 7) (d := 100) rfl rfl ⟨_, _, _, rfl, rfl, rfl, rfl⟩ rfl rfl ?_
         refine wlo 7 8 rfl rfl rfl (wo_run rfl rfl (run_pickF rfl rfl rfl) ?_)
         refine wl_end rfl ?_
         refine nm_sub [(3, _), (4, _), (5, _), (9, _), (10, _), (11, _), (12, _), (13, _), (14, _), (101, _)] ⟨rfl, rfl, rfl, rfl, rfl, rfl, rfl, rfl, rfl, rfl, trivial⟩ ?_
         refine nm_thn ?_
         refine ws_condFN BracketOf_n88 rfl rfl rfl ?_
         refine ws_exit rfl rfl ?_
         refine nm_blk ?_
         refine nm_sub [(3, _), (4, _), (5, _), (9, _), (10, _), (11, _), (12, _)] ⟨rfl, rfl, rfl, rfl, rfl, rfl, rfl, trivial⟩ ?_
         refine nm_thn ?_
         refine ws_region rfl ?_
         refine wlm 0 1 rfl rfl rfl rfl rfl rfl rfl ?_
         refine wlo 1 2 rfl rfl rfl (wo_run rfl rfl (run_add rfl rfl rfl (by first | omega | (simp only [lens]; omega))) ?_)
         refine wl_eq 83 (.int .i64 (((q + 1 : Nat) : Int) - (d.crs.length : Int))) rfl (int_eq (by omega)) ?_
         refine wla 2 3 rfl rfl rfl rfl rfl rfl rfl ?_
         refine wl_end rfl ?_
         refine nm_lp ?_
         intro ax_ hax_
         refine ⟨_, ?hq11m, ⟨q + 1, acc3, Ao3, co3, _, (hle5.trans hle6), rfl, hax_.sub ⟨rfl, rfl, rfl, rfl, rfl, rfl, rfl, trivial⟩, S10.pick [0] [_] (by decide) ⟨rfl, trivial⟩, ?hq11f0, ?hq11f1, ?hq11f2, ?hq11f3, ?hq11f4⟩⟩
         case hq11f0 => exact hacc3
         case hq11f1 => omega
         case hq11f2 => exact hcc3
         case hq11f3 => exact hbc3
         case hq11f4 => (have e1 : sumP (fun e => cw d mn (r + 1) e) (q + 1) = sumP (fun e => cw d mn (r + 1) e) q + cw d mn (r + 1) q := rfl; rw [hmc3, e1, ← Pol.add_assoc]; refine Pol.add_l _ ?_; unfold cw; rw [← hc9, Nat.add_sub_cancel]; first | (rw [show i = l1.length by omega, List.take_length, hmk8]) | (rw [show c9 = 0 by omega, mono_zero, Pol.mul_zero, Pol.mul_zero]))
         case hq11m => omega
      ·replace hb81 := of_decide_eq_false hb81
       refine ws_exit rfl rfl ?_
       refine nm_blk ?_
       refine nm_sub [(3, _), (4, _), (5, _), (9, _), (10, _)] ⟨rfl, rfl, rfl, rfl, rfl, trivial⟩ ?_
       refine nm_thn ?_
       refine ws_region rfl ?_
       refine wlm 0 1 rfl rfl rfl rfl rfl rfl rfl ?_
       refine wlo 1 2 rfl rfl rfl (wo_run rfl rfl (run_add rfl rfl rfl (by first | omega | (simp only [lens]; omega))) ?_)
       refine wla 2 3 rfl rfl rfl rfl rfl rfl rfl ?_
       refine wl_end rfl ?_
       refine nm_lp ?_
       intro ax_ hax_
       refine ⟨_, ?hq12m, ⟨r + 1, acc2, Ao2, co2, _, ((hle3.trans hle4).trans hle5), rfl, hax_.sub ⟨rfl, rfl, rfl, rfl, rfl, trivial⟩, S9.pick [0] [_] (by decide) ⟨rfl, trivial⟩, ?hq12f0, ?hq12f1, ?hq12f2, ?hq12f3, ?hq12f4⟩⟩
       case hq12f0 => exact hacc2
       case hq12f1 => omega
       case hq12f2 => exact hcc2
       case hq12f3 => exact hbc2
       case hq12f4 => (rw [hmc2, show q = 2 * d.crs.length + 1 by omega]; rfl)
       case hq12m => omega
    ·replace hb71 := of_decide_eq_false hb71
     refine ws_exit rfl rfl ?_
     refine nm_sub [(9, _)] ⟨rfl, trivial⟩ ?_
     refine nm_thn ?_
     refine ws_seqN BracketOf_n92 BracketOf_n93 rfl rfl rfl ?_
     refine ws_region rfl ?_
     refine wlm 0 1 rfl rfl rfl rfl rfl rfl rfl ?_
     refine wla 1 2 rfl rfl rfl rfl rfl rfl rfl ?_
     refine wl_end rfl ?_
     refine nm_sub [(2, _)] ⟨rfl, trivial⟩ ?_
     refine nm_thn ?_
     refine ws_ret hC [_] rfl rfl ⟨rfl, trivial⟩ ?_
     refine ⟨_, rfl, _, hle3, (S7.pick [] [] (by decide) trivial), ?_⟩
     have hse : s = 2 ^ d.crs.length := by omega
     exact ⟨_, _, _, rfl, hacc, hcc, hbc, by rw [hmc, show r = wdN d - 1 by omega, ← hse, ← hms]; rfl⟩
end Go.Proofs.YtlmcnpbkmihjkaaDoor
namespace Go.Proofs.YtlmcnpbkmihjkaaDoor
open Go.ChangeShapes Go.WideShapes Go.ChangeAt Go.RowKit
def tb (s : Nat) : Nat → Bool := fun c => s.testBit c
theorem pcN_bl (s k : Nat) : pcN s k = bl (tb s) k := by
  induction k with
  | zero => rfl
  | succ k ih => rw [pcN, bl, ih]; rfl
theorem bl_flat {S : Nat → Bool} {n : Nat} (h : ∀ c, n ≤ c → S c = false) (d : Nat) : bl S (n + d) = bl S n := by
  induction d with
  | zero => rfl
  | succ d ih => rw [show n + (d + 1) = n + d + 1 by omega, bl, ih, if_neg (by rw [h _ (by omega)]; exact Bool.false_ne_true)]; rfl
theorem bl_le (S : Nat → Bool) (n : Nat) : bl S n ≤ n := by
  induction n with
  | zero => exact Nat.le_refl _
  | succ n ih => rw [bl]; split <;> omega
theorem tb_high {s n c : Nat} (h : s < 2 ^ n) (hc : n ≤ c) : tb s c = false := Nat.testBit_lt_two_pow (Nat.lt_of_lt_of_le h (Nat.pow_le_pow_right (by decide) hc))
theorem pc_eq {s n : Nat} (h : s < 2 ^ n) (hn : n ≤ 12) : pcN s 12 = bl (tb s) n ∧ bl (tb s) n ≤ n := by
  refine ⟨?_, bl_le _ _⟩
  rw [pcN_bl]
  have := bl_flat (S := tb s) (n := n) (fun c hc => tb_high h hc) (12 - n)
  rw [show n + (12 - n) = 12 by omega] at this
  exact this
end Go.Proofs.YtlmcnpbkmihjkaaDoor
namespace Go.Proofs.YtlmcnpbkmihjkaaDoor
open Go.ChangeShapes Go.WideShapes Go.ChangeAt Go.RowKit
noncomputable def OC64_n0 : Code := Tryd.f37.body.getD .skip
noncomputable def OC64_n1 : Code := cL OC64_n0
noncomputable def OC64_n2 : Code := cR OC64_n0
noncomputable def OC64_n3 : Code := cL OC64_n2
noncomputable def OC64_n4 : Code := cR OC64_n2
noncomputable def OC64_n5 : Code := cL OC64_n4
noncomputable def OC64_n6 : Code := cR OC64_n4
noncomputable def OC64_n7 : Code := cL OC64_n6
noncomputable def OC64_n8 : Code := cR OC64_n6
noncomputable def OC64_n9 : Code := cL OC64_n8
noncomputable def OC64_n10 : Code := cR OC64_n8
noncomputable def OC64_n11 : Code := cL OC64_n10
noncomputable def OC64_n12 : Code := cR OC64_n10
noncomputable def OC64_n13 : Code := cL OC64_n12
noncomputable def OC64_n14 : Code := cR OC64_n12
noncomputable def OC64_n15 : Code := cL OC64_n14
noncomputable def OC64_n16 : Code := cR OC64_n14
set_option maxRecDepth 10000 in
theorem OC64_q {w : World} {M : Hp} {X : Fr} (x : Nat) (hx : x < 4096) (S : SH w M X []) : Cq Tryd.prog 37 [.int .u64 (x : Int)] w M X (fun u => u = .int .i64 (pcN x 12 : Int)) := by
 unfold Cq
 refine calls_in (b := OC64_n0) Tryd.func37 rfl Tryd.ntmps37 rfl (fun C hC => ?_)
 refine ws_sub [(0, _)] ⟨rfl, trivial⟩ ?_
 refine ws_seqN OC64_n1 OC64_n2 rfl rfl rfl ?_
 refine ws_region rfl ?_
 refine wla 0 1 rfl rfl rfl rfl rfl rfl rfl ?_
 refine wl_end rfl ?_
 refine nm_sub [(0, _)] ⟨rfl, trivial⟩ ?_
 refine nm_thn ?_
 refine ws_seqN OC64_n3 OC64_n4 rfl rfl rfl ?_
 refine ws_region rfl ?_
 refine wlm 0 1 rfl rfl rfl rfl rfl rfl rfl ?_
 refine wlo 1 2 rfl rfl rfl (wo_run rfl rfl (run_shrK rfl rfl rfl (by decide)) ?_)
 refine wlo 2 3 rfl rfl rfl (wo_run rfl rfl (run_andK rfl rfl rfl) ?_)
 refine wlm 3 4 rfl rfl rfl rfl rfl rfl rfl ?_
 refine wlo 4 5 rfl rfl rfl (wo_run rfl rfl (run_andK rfl rfl rfl) ?_)
 refine wlo 5 6 rfl rfl rfl (wo_run rfl rfl (run_addK rfl rfl rfl) ?_)
 refine wla 6 7 rfl rfl rfl rfl rfl rfl rfl ?_
 refine wl_end rfl ?_
 refine nm_sub [(0, _)] ⟨rfl, trivial⟩ ?_
 refine nm_thn ?_
 refine ws_seqN OC64_n5 OC64_n6 rfl rfl rfl ?_
 refine ws_eq 0 (.int .u64 (oc1 x)) rfl rfl ?_
 refine ws_region rfl ?_
 refine wlm 0 1 rfl rfl rfl rfl rfl rfl rfl ?_
 refine wlo 1 2 rfl rfl rfl (wo_run rfl rfl (run_shrK rfl rfl rfl (by decide)) ?_)
 refine wlo 2 3 rfl rfl rfl (wo_run rfl rfl (run_andK rfl rfl rfl) ?_)
 refine wlm 3 4 rfl rfl rfl rfl rfl rfl rfl ?_
 refine wlo 4 5 rfl rfl rfl (wo_run rfl rfl (run_andK rfl rfl rfl) ?_)
 refine wlo 5 6 rfl rfl rfl (wo_run rfl rfl (run_addK rfl rfl rfl) ?_)
 refine wla 6 7 rfl rfl rfl rfl rfl rfl rfl ?_
 refine wl_end rfl ?_
 refine nm_sub [(0, _)] ⟨rfl, trivial⟩ ?_
 refine nm_thn ?_
 refine ws_seqN OC64_n7 OC64_n8 rfl rfl rfl ?_
 refine ws_eq 0 (.int .u64 (oc2 x)) rfl rfl ?_
 refine ws_region rfl ?_
 refine wlm 0 1 rfl rfl rfl rfl rfl rfl rfl ?_
 refine wlo 1 2 rfl rfl rfl (wo_run rfl rfl (run_shrK rfl rfl rfl (by decide)) ?_)
 refine wlm 2 3 rfl rfl rfl rfl rfl rfl rfl ?_
 refine wlo 3 4 rfl rfl rfl (wo_run rfl rfl (run_addK rfl rfl rfl) ?_)
 refine wlo 4 5 rfl rfl rfl (wo_run rfl rfl (run_andK rfl rfl rfl) ?_)
 refine wla 5 6 rfl rfl rfl rfl rfl rfl rfl ?_
 refine wl_end rfl ?_
 refine nm_sub [(0, _)] ⟨rfl, trivial⟩ ?_
 refine nm_thn ?_
 refine ws_seqN OC64_n9 OC64_n10 rfl rfl rfl ?_
 refine ws_eq 0 (.int .u64 (oc3 x)) rfl rfl ?_
 refine ws_region rfl ?_
 refine wlm 0 1 rfl rfl rfl rfl rfl rfl rfl ?_
 refine wlm 1 2 rfl rfl rfl rfl rfl rfl rfl ?_
 refine wlo 2 3 rfl rfl rfl (wo_run rfl rfl (run_shrK rfl rfl rfl (by decide)) ?_)
 refine wlo 3 4 rfl rfl rfl (wo_run rfl rfl (run_addK rfl rfl rfl) ?_)
 refine wla 4 5 rfl rfl rfl rfl rfl rfl rfl ?_
 refine wl_end rfl ?_
 refine nm_sub [(0, _)] ⟨rfl, trivial⟩ ?_
 refine nm_thn ?_
 refine ws_seqN OC64_n11 OC64_n12 rfl rfl rfl ?_
 refine ws_eq 0 (.int .u64 (oc4 x)) rfl rfl ?_
 refine ws_region rfl ?_
 refine wlm 0 1 rfl rfl rfl rfl rfl rfl rfl ?_
 refine wlm 1 2 rfl rfl rfl rfl rfl rfl rfl ?_
 refine wlo 2 3 rfl rfl rfl (wo_run rfl rfl (run_shrK rfl rfl rfl (by decide)) ?_)
 refine wlo 3 4 rfl rfl rfl (wo_run rfl rfl (run_addK rfl rfl rfl) ?_)
 refine wla 4 5 rfl rfl rfl rfl rfl rfl rfl ?_
 refine wl_end rfl ?_
 refine nm_sub [(0, _)] ⟨rfl, trivial⟩ ?_
 refine nm_thn ?_
 refine ws_seqN OC64_n13 OC64_n14 rfl rfl rfl ?_
 refine ws_eq 0 (.int .u64 (oc5 x)) rfl rfl ?_
 refine ws_region rfl ?_
 refine wlm 0 1 rfl rfl rfl rfl rfl rfl rfl ?_
 refine wlm 1 2 rfl rfl rfl rfl rfl rfl rfl ?_
 refine wlo 2 3 rfl rfl rfl (wo_run rfl rfl (run_shrK rfl rfl rfl (by decide)) ?_)
 refine wlo 3 4 rfl rfl rfl (wo_run rfl rfl (run_addK rfl rfl rfl) ?_)
 refine wla 4 5 rfl rfl rfl rfl rfl rfl rfl ?_
 refine wl_end rfl ?_
 refine nm_sub [(0, _)] ⟨rfl, trivial⟩ ?_
 refine nm_thn ?_
 refine ws_seqN OC64_n15 OC64_n16 rfl rfl rfl ?_
 refine ws_eq 0 (.int .u64 (oc6 x)) rfl rfl ?_
 refine ws_region rfl ?_
 refine wlm 0 1 rfl rfl rfl rfl rfl rfl rfl ?_
 refine wlo 1 2 rfl rfl rfl (wo_run rfl rfl (run_convI rfl rfl ⟨_, Tryd.underlying77⟩ Tryd.underlying3) ?_)
 refine wlo 2 3 rfl rfl rfl (wo_run rfl rfl (run_andK rfl rfl rfl) ?_)
 refine wla 3 4 rfl rfl rfl rfl rfl rfl rfl ?_
 refine wl_end rfl ?_
 refine nm_sub [(2, _)] ⟨rfl, trivial⟩ ?_
 refine nm_thn ?_
 refine ws_ret hC [_] rfl rfl ⟨rfl, trivial⟩ ?_
 exact ⟨_, rfl, (S.pick [] [] (by decide) trivial), (congrArg (Value.int .i64) (oc_law hx))⟩
noncomputable def OC_n0 : Code := Tryd.f22.body.getD .skip
noncomputable def OC_n1 : Code := cL OC_n0
noncomputable def OC_n2 : Code := cR OC_n0
noncomputable def OC_n3 : Code := cL OC_n2
noncomputable def OC_n4 : Code := cR OC_n2
noncomputable def OC_n6 : Code := cR OC_n3
noncomputable def OC_n7 : Code := cL OC_n4
noncomputable def OC_n8 : Code := cR OC_n4
set_option maxRecDepth 10000 in
theorem OC_q {w : World} {M : Hp} {X : Fr} (x : Nat) (hx : x < 4096) (S : SH w M X []) : Cq Tryd.prog 22 [.int .u64 (x : Int)] w M X (fun u => u = .int .i64 (pcN x 12 : Int)) := by
 unfold Cq
 refine calls_in (b := OC_n0) Tryd.func22 rfl Tryd.ntmps22 rfl (fun C hC => ?_)
 refine ws_sub [(0, _)] ⟨rfl, trivial⟩ ?_
 refine ws_seqN OC_n1 OC_n2 rfl rfl rfl ?_
 refine ws_region rfl ?_
 refine wla 0 1 rfl rfl rfl rfl rfl rfl rfl ?_
 refine wl_end rfl ?_
 refine nm_sub [(0, _)] ⟨rfl, trivial⟩ ?_
 refine nm_thn ?_
 refine ws_seqN OC_n3 OC_n4 rfl rfl rfl ?_
 refine ws_condFN OC_n6 rfl rfl rfl ?_
 refine ws_skip rfl ?_
 refine nm_thn ?_
 refine ws_seqN OC_n7 OC_n8 rfl rfl rfl ?_
 refine ws_region rfl ?_
 refine wlm 0 1 rfl rfl rfl rfl rfl rfl rfl ?_
 refine wlo 1 2 rfl rfl rfl (wo_cq rfl rfl rfl rfl rfl rfl rfl cf37 S (OC64_q x (hx) S.lend) ?_)
 rintro _ w1 S1 rfl; clear S
 refine wla 2 3 rfl rfl rfl rfl rfl rfl rfl ?_
 refine wl_end rfl ?_
 refine nm_sub [(2, _)] ⟨rfl, trivial⟩ ?_
 refine nm_thn ?_
 refine ws_ret hC [_] rfl rfl ⟨rfl, trivial⟩ ?_
 exact ⟨_, rfl, (S1.pick [] [] (by decide) trivial), rfl⟩
end Go.Proofs.YtlmcnpbkmihjkaaDoor
namespace Go.Proofs.YtlmcnpbkmihjkaaDoor
open Go.ChangeShapes Go.WideShapes Go.ChangeAt Go.RowKit
structure Kd where
 mo : Int
 ri : Int
instance : DecidableEq Kd := fun x y => decidable_of_iff (x.mo = y.mo ∧ x.ri = y.ri) ⟨fun h => by cases x; cases y; simp at h; simp [h], fun h => by rw [h]; exact ⟨rfl, rfl⟩⟩
instance : Inhabited Kd := ⟨⟨0, 0⟩⟩
def kw (k : Kd) (c : Int) : Pol := dlp (k.ri.toNat - 1) * mono k.mo c
theorem kw_add (k : Kd) (a b : Int) : kw k (a + b) = kw k a + kw k b := by unfold kw; rw [mono_add, Pol.mul_add]
def kS : List (Kd × Int) → Pol
 | [] => Pol.o
 | p :: r => kw p.1 p.2 + kS r
theorem kS_app (a b : List (Kd × Int)) : kS (a ++ b) = kS a + kS b := by
 induction a with
 | nil => exact (Pol.zero_add _).symm
 | cons p a ih => show kw p.1 p.2 + kS (a ++ b) = kw p.1 p.2 + kS a + kS b; rw [ih, Pol.add_assoc]
theorem kS_perm {a b : List (Kd × Int)} (h : a.Perm b) : kS a = kS b := by
 induction h with
 | nil => rfl
 | cons x _ ih => show kw x.1 x.2 + kS _ = kw x.1 x.2 + kS _; rw [ih]
 | swap x y l => show kw y.1 y.2 + (kw x.1 x.2 + kS l) = kw x.1 x.2 + (kw y.1 y.2 + kS l); rw [← Pol.add_assoc, ← Pol.add_assoc, Pol.add_comm (kw y.1 y.2)]
 | trans _ _ h1 h2 => exact h1.trans h2
theorem kS_mp (k : Kd) (v : Int) (es : List (Kd × Int)) : kS (mp k v es) = kS es + kw k (v - (mg k es).getD 0) := by
 induction es with
 | nil =>
  show kw k v + Pol.o = Pol.o + kw k (v - 0)
  rw [Pol.zero_add, Int.sub_zero, Pol.add_zero]
 | cons p r ih =>
  unfold mp mg
  by_cases h : k = p.1
  ·rw [if_pos h, if_pos h]
   subst h
   show kw p.1 v + kS r = kw p.1 p.2 + kS r + kw p.1 (v - p.2)
   rw [Pol.add_assoc, Pol.add_comm (kS r), ← Pol.add_assoc, ← kw_add, show p.2 + (v - p.2) = v by omega]
  ·rw [if_neg h, if_neg h]
   show kw p.1 p.2 + kS (mp k v r) = kw p.1 p.2 + kS r + kw k (v - (mg k r).getD 0)
   rw [ih, Pol.add_assoc]
theorem kS_one (k : Kd) (es : List (Kd × Int)) : kS (mp k ((mg k es).getD 0 + 1) es) = kS es + kw k 1 := by
 rw [kS_mp, show (mg k es).getD 0 + 1 - (mg k es).getD 0 = 1 by omega]
theorem mpK_mem {k : Kd} {v : Int} {es : List (Kd × Int)} {q : Kd × Int} (h : q ∈ mp k v es) : q = (k, v) ∨ q ∈ es := by
 induction es with
 | nil => exact .inl (List.mem_singleton.1 h)
 | cons p r ih =>
  unfold mp at h
  by_cases e : k = p.1
  ·rw [if_pos e] at h
   rcases List.mem_cons.1 h with h | h
   ·exact .inl h
   ·exact .inr (List.mem_cons_of_mem _ h)
  ·rw [if_neg e] at h
   rcases List.mem_cons.1 h with h | h
   ·exact .inr (by rw [h]; exact List.mem_cons_self ..)
   ·rcases ih h with h | h
    ·exact .inl h
    ·exact .inr (List.mem_cons_of_mem _ h)
theorem mgK_bd {es : List (Kd × Int)} {B : Int} (h0 : 0 ≤ B) (h : ∀ q ∈ es, 0 ≤ q.2 ∧ q.2 ≤ B) (k : Kd) : 0 ≤ (mg k es).getD 0 ∧ (mg k es).getD 0 ≤ B := by
 induction es with
 | nil => exact ⟨Int.le_refl _, h0⟩
 | cons p r ih =>
  unfold mg
  by_cases e : k = p.1
  ·rw [if_pos e]; exact h p (List.mem_cons_self ..)
  ·rw [if_neg e]; exact ih fun q hq => h q (List.mem_cons_of_mem _ hq)
/-- What may stand in the counts behind so many states. -/
def KsOk (n : Nat) (s : Nat) (es : List (Kd × Int)) : Prop := ∀ q ∈ es, (0 ≤ q.2 ∧ q.2 ≤ s) ∧ (1 ≤ q.1.ri ∧ q.1.ri ≤ 40) ∧ (-(n : Int) ≤ q.1.mo ∧ q.1.mo ≤ n)
theorem KsOk.put {n s : Nat} {es : List (Kd × Int)} (h : KsOk n s es) {k : Kd} (hr : 1 ≤ k.ri ∧ k.ri ≤ 40) (hm : -(n : Int) ≤ k.mo ∧ k.mo ≤ n) : KsOk n (s + 1) (mp k ((mg k es).getD 0 + 1) es) := fun q hq => by
 rcases mpK_mem hq with rfl | hq
 ·have := mgK_bd (B := (s : Int)) (by omega) (fun q hq => (h q hq).1) k
  exact ⟨⟨by show 0 ≤ (mg k es).getD 0 + 1; omega, by show (mg k es).getD 0 + 1 ≤ _; omega⟩, hr, hm⟩
 ·have := h q hq
  exact ⟨⟨this.1.1, by omega⟩, this.2⟩
def kdP (d : Dg) (s : Nat) : Kd := ⟨(d.crs.length : Int) - 2 * (pcN s 12 : Int), rngF d (flipN s)⟩
theorem expN_flip {n s : Nat} (hs : s < 2 ^ n) : ∀ k, k ≤ n → expN (2 ^ n - 1 - s) k = (k : Int) - 2 * (bl (tb s) k : Int) := by
 intro k
 induction k with
 | zero => intro _; rfl
 | succ k ih =>
  intro hk
  have hf := bitN_flip hs (show k < n by omega)
  have hb : bitN s k = (s.testBit k).toNat := by unfold bitN; rw [Nat.toNat_testBit]
  rw [expN, ih (by omega), hf, bl]
  unfold flipN
  rw [hb]
  show _ = _ - 2 * ((bl (tb s) k + (if tb s k = true then 1 else 0) : Nat) : Int)
  unfold tb
  cases s.testBit k
  ·simp; omega
  ·simp; omega
theorem sums_eq (d : Dg) (hn : d.crs.length ≤ 12) : sumP (fun s => kw (kdP d s) 1) (2 ^ d.crs.length) = sumP (gD d) (2 ^ d.crs.length) := by
 rw [sumP_rev (gD d)]
 refine sumP_congr fun s hs => ?_
 unfold kw kdP gD kD
 have e1 : rngF d (bitN (2 ^ d.crs.length - 1 - s)) = rngF d (flipN s) := rngF_congr fun x hx => bitN_flip hs hx
 rw [e1, expN_flip hs _ (Nat.le_refl _), (pc_eq hs hn).1]
end Go.Proofs.YtlmcnpbkmihjkaaDoor
namespace Go.Proofs.YtlmcnpbkmihjkaaDoor
open Go.ChangeShapes Go.WideShapes Go.ChangeAt Go.RowKit
section
variable {κ ε : Type} [DecidableEq κ]
theorem fk_mp (k : κ) (v : ε) : ∀ (es : List (κ × ε)) (i : Nat), fk k (mp k v es) i = some (((fk k es i).map (·.1)).getD (i + es.length), v)
  | [], i => by simp [mp, fk]
  | p :: r, i => by
    unfold mp
    by_cases h : k = p.1
    · rw [if_pos h]; simp [fk, h]
    · rw [if_neg h]
      simp only [fk, if_neg h, fk_mp k v r (i + 1), List.length_cons]
      rw [show i + 1 + r.length = i + (r.length + 1) by omega]
theorem fk_at {k : κ} : ∀ {es : List (κ × ε)} {j : Nat} {v : ε}, fk k es 0 = some (j, v) → es[j]? = some (k, v) := by
  have key : ∀ (es : List (κ × ε)) (i j : Nat) (v : ε), fk k es i = some (j, v) → ∃ m, j = i + m ∧ es[m]? = some (k, v) := by
    intro es
    induction es with
    | nil => intro i j v h; cases h
    | cons p r ih =>
      intro i j v h
      unfold fk at h
      split at h
      · rename_i he
        injection h with h
        injection h with h1 h2
        exact ⟨0, by omega, by subst he; subst h2; rfl⟩
      · obtain ⟨m, h1, h2⟩ := ih _ _ _ h
        exact ⟨m + 1, by omega, by simpa using h2⟩
  intro es j v h
  obtain ⟨m, h1, h2⟩ := key es 0 j v h
  obtain rfl : j = m := by omega
  exact h2
theorem mp_mp (k : κ) (v v' : ε) : ∀ es : List (κ × ε), mp k v (mp k v' es) = mp k v es
  | [] => by simp [mp]
  | p :: r => by
    by_cases h : k = p.1
    · simp [mp, h]
    · simp [mp, h, mp_mp k v v' r]
theorem mg_mp_self (k : κ) (v v' : ε) (es : List (κ × ε)) : (mg k (mp k v es)).getD v' = v := by rw [mg_mp, if_pos rfl]; rfl
theorem born_idx {st : Nat} : ∀ {l : List MapEntry} {j : Nat}, (l.map (·.born)).Nodup → (l[j]?).map (·.born) = some st → l.findIdx? (fun e => ((e.born : Nat) : Int) == (st : Int)) = some j
  | [], _, _, h => by simp at h
  | e :: l, 0, _, h => by
    have h1 : e.born = st := by simpa using h
    rw [List.findIdx?_cons, if_pos (by simp [h1])]
  | e :: l, j + 1, hn, h => by
    obtain ⟨h1, h2⟩ := List.nodup_cons.1 (by simpa using hn : (e.born :: l.map (·.born)).Nodup)
    have h3 : (l[j]?).map (·.born) = some st := by simpa using h
    have hne : e.born ≠ st := fun e1 => h1 (by
      cases hl : l[j]? with
      | none => rw [hl] at h3; cases h3
      | some y =>
        rw [hl] at h3
        injection h3 with h3
        exact List.mem_map.2 ⟨y, List.mem_of_getElem? hl, (show y.born = e.born from by rw [e1]; exact h3)⟩)
    rw [List.findIdx?_cons, if_neg (by simpa using fun e1 => hne (by omega)), born_idx h2 h3]
    rfl
theorem set_same {α : Type} {l : List α} {j : Nat} {a : α} (h : l[j]? = some a) : l.set j a = l := by
  apply List.ext_getElem?
  intro q
  rw [List.getElem?_set]
  split
  · rename_i e
    subst e
    rw [h, if_pos (List.getElem?_eq_some_iff.1 h).1]
  · rfl
/-- A map one of whose entries has been found or made: its stamp. -/
def MpS (kc : κ → Value) (vc : ε → Value) (g : Nat) (es : List (κ × ε)) (k : κ) (st : Nat) (h : Hp) : Prop :=
  ∃ arr clock, h g = some (.map arr clock) ∧ arr.toList.map (fun e => (e.key, e.val)) = es.map (fun p => (kc p.1, vc p.2)) ∧ Stm arr clock ∧ ∃ j v, fk k es 0 = some (j, v) ∧ (arr[j]?).map (·.born) = some st
def Rs.mpS (kc : κ → Value) (vc : ε → Value) (g : Nat) (es : List (κ × ε)) (k : κ) (st : Nat) : Rs :=
  ⟨[g], MpS kc vc g es k st, fun h h' hb hk => by
    obtain ⟨arr, clock, h1, h2⟩ := hk
    exact ⟨arr, clock, by rw [hb g (by simp)]; exact h1, h2⟩⟩
end
section
variable {P : Program} {o : Oper} {L : List (Nat × Value)} {w w' : World} {x y z : Operand} {t T K E : TypeId} {v u : Value} {n d g i : Nat} {Kt : List (Nat × Value) → World → Prop} {M M' : Hp} {X : Fr} {H H' : List Rs}
variable {κ ε : Type} [DecidableEq κ] {kc : κ → Value} {vc : ε → Value} {es : List (κ × ε)}
theorem SH.unS {k : κ} {st : Nat} (S : SH w M X H) (hi : nth H i = some (Rs.mpS kc vc g es k st)) : SH w M X (H.set i (Rs.mp kc vc g es)) := by
  obtain ⟨arr, clock, h1, h2, h3, _⟩ := (S.get hi : MpS kc vc g es k st (hp w))
  exact S.step hi rfl ⟨rfl, rfl, rfl, Nat.le_refl _⟩ (fun b _ _ => rfl) ⟨arr, clock, h1, h2, h3⟩ (fun b hb => ⟨.inl hb, (S.bl _ (List.mem_of_getElem? (by rw [← nth_eq]; exact hi)) b (show b ∈ (Rs.mpS kc vc g es k st).bl from hb)).1⟩)
theorem run_lookupS {k k' : κ} {zv : ε} {st : Nat} (hop : o.op = .lookup T x y false) (hx : oev L x = some (.map (some g))) (hy : oev L y = some (kc k)) (hu : P.underlying T = some (.map K E)) (hK : MapK P K kc) (hz : (P.info? E).map (·.zero) = some (some (vc zv))) (S : SH w M X H) (hi : nth H i = some (Rs.mpS kc vc g es k' st)) : Run P o L w (vc ((mg k es).getD zv)) w :=
  run_lookup hop hx hy hu hK hz (S.unS hi) (by rw [nth_eq] at hi ⊢; exact List.getElem?_set_self (List.getElem?_eq_some_iff.1 hi).1)
theorem wo_mapEntry {k : κ} {zv : ε} (hop : o.op = .mapEntry T x y) (hd : o.dst = some d) (hn : Nat.blt d n = true) (S : SH w M X H) (hi : nth H i = some (Rs.mp kc vc g es)) (hx : oev L x = some (.map (some g))) (hy : oev L y = some (kc k)) (hu : P.underlying T = some (.map K E)) (hK : MapK P K kc) (hz : (P.info? E).map (·.zero) = some (some (vc zv)))
    (h : ∀ (st : Nat) w', SH w' M X (H.set i (Rs.mpS kc vc g (Go.Proofs.YtlmcnpbkmihjkaaDoor.mp k ((mg k es).getD zv) es) k st)) → Kt ((d, .tuple #[vc ((mg k es).getD zv), .int .i64 (st : Int)]) :: L) w') : WO P n o L w Kt := by
  obtain ⟨arr, clock, hg, ha, hstm⟩ := (S.get hi : MpOk kc vc g es (hp w))
  have hf := hK.find k _ arr.toList w (map_pairs ha)
  rw [fk_map] at hf
  have hg' : w.heap[g]? = some (.map arr clock) := hg
  have hgo := MapKept.run_getObj_map (P := P) hg'
  have hc := fun b => hK.check k w b
  have hlen : arr.toList.length = es.length := by have := congrArg List.length ha; simpa using this
  have key : ∃ arr' clock' st, (Instr.mapEntry T (.map (some g)) (kc k)).run P w = .ok (.tuple #[vc ((mg k es).getD zv), .int .i64 ((st : Nat) : Int)]) { w with heap := w.heap.setIfInBounds g (.map arr' clock') } ∧ arr'.toList.map (fun e => (e.key, e.val)) = (Go.Proofs.YtlmcnpbkmihjkaaDoor.mp k ((mg k es).getD zv) es).map (fun p => (kc p.1, vc p.2)) ∧ Stm arr' clock' ∧ ∃ j v, fk k (Go.Proofs.YtlmcnpbkmihjkaaDoor.mp k ((mg k es).getD zv) es) 0 = some (j, v) ∧ (arr'[j]?).map (·.born) = some st := by
    cases hfk : fk k es 0 with
    | none =>
      rw [hfk] at hf
      have hm := (fk_none hfk).1
      rw [hm, Option.getD_none]
      refine ⟨arr.push { key := kc k, val := vc zv, born := clock }, clock + 1, clock, ?_, ?_, ?_, ?_⟩
      · simp only [Instr.mapEntry, Sem.run_bind, run_underlying hu, hgo, hc, hf, Result.andThen_ok, Option.map_none, run_zero hz, MapKept.run_setObj_map _ hg', Sem.run_pure]
        rfl
      · rw [(fk_none hfk).2 zv, Array.toList_push, List.map_append, List.map_append, ha]; rfl
      · refine ⟨?_, fun x hx => ?_⟩
        · rw [Array.toList_push, List.map_append]
          refine List.nodup_append.2 ⟨hstm.1, by simp, fun a ha' b hb' => ?_⟩
          obtain ⟨x, hx, rfl⟩ := List.mem_map.1 ha'
          simp at hb'
          have := hstm.2 x hx
          omega
        · rw [Array.toList_push] at hx
          rcases List.mem_append.1 hx with h1 | h1
          · have := hstm.2 x h1; omega
          · simp at h1; subst h1; exact Nat.lt_succ_self _
      · refine ⟨_, _, fk_mp k zv es 0, ?_⟩
        rw [hfk]
        show ((arr.push _)[0 + es.length]?).map _ = _
        rw [Nat.zero_add, ← hlen, Array.length_toList, Array.getElem?_push_size]
        rfl
    | some q =>
      obtain ⟨j, v⟩ := q
      rw [hfk] at hf
      obtain ⟨hm, m, hj, p, hp1, hp2, hset⟩ := fk_some hfk
      obtain rfl : j = m := by omega
      have hjl : j < es.length := (List.getElem?_eq_some_iff.1 hp1).1
      have hja : j < arr.size := by rw [← Array.length_toList, hlen]; exact hjl
      have hkv : (arr[j]?).map (fun e => (e.key, e.val)) = some (kc p.1, vc p.2) := by
        have h1 := congrArg (fun l => l[j]?) ha
        simp only [List.getElem?_map, hp1, Option.map_some] at h1
        rw [Array.getElem?_toList] at h1
        exact h1
      rw [Array.getElem?_eq_getElem hja, Option.map_some, Option.some.injEq, Prod.mk.injEq] at hkv
      rw [hp2] at hkv
      have hp3 := fk_at hfk
      have hv : p.2 = v := by rw [hp1] at hp3; simp at hp3; rw [hp3]
      have hmodk : (arr.modify j fun e' => { e' with key := kc k }) = arr := by
        apply Array.ext'
        apply List.ext_getElem?
        intro q
        rw [Array.getElem?_toList, Array.getElem?_modify, Array.getElem?_toList]
        by_cases hq : j = q
        · subst hq
          rw [if_pos rfl, Array.getElem?_eq_getElem hja, Option.map_some, ← hkv.1]
        · rw [if_neg hq]
      rw [hm, Option.getD_some]
      refine ⟨arr, clock, arr[j].born, ?_, ?_, hstm, j, v, ?_, by rw [Array.getElem?_eq_getElem hja]; rfl⟩
      · have hst : (Instr.keyThatStays (kc k) (kc k)).run P w = .ok (kc k) w := by
          unfold Instr.keyThatStays
          rw [if_pos (hK.bits k)]; rfl
        have hkey : (arr[j]?).map (·.key) = some (kc k) := by rw [Array.getElem?_eq_getElem hja, Option.map_some, hkv.1]
        simp only [Instr.mapEntry, Sem.run_bind, run_underlying hu, hgo, hc, hf, Result.andThen_ok, Option.map_some, hkey, Option.getD_some, hst, MapKept.run_setObj_map _ hg', hmodk, Sem.run_pure]
        rw [Array.getElem?_eq_getElem hja]
        rfl
      · rw [hset v, ha]
        have h4 : es.set j (k, v) = es := by
          rw [← hp2, ← hv]
          exact set_same hp1
        rw [h4]
      · have h5 := fk_mp k v es 0
        rw [hfk] at h5
        exact h5
  obtain ⟨arr', clock', st, hrun, hpairs, hstm', hst'⟩ := key
  have hlt := hp_lt hg
  refine wo_run (v := .tuple #[vc ((mg k es).getD zv), .int .i64 ((st : Nat) : Int)]) (w' := { w with heap := w.heap.setIfInBounds g (.map arr' clock') }) hd hn ?_ (h st _ ?_)
  · intro n c he
    unfold execOp
    simp only [hop, he.eval hx, he.eval hy, hrun, Sem.run_bind, Result.andThen_ok, Sem.run_pure]
  · refine S.step hi rfl (like_setB w g _) (fun b _ hb => ?_) ⟨arr', clock', ?_, hpairs, hstm', hst'⟩ (fun b hb => ⟨.inl hb, ?_⟩)
    · have hne : b ≠ g := by simpa [Rs.mp] using hb
      show (w.heap.setIfInBounds g _)[b]? = w.heap[b]?
      rw [Array.getElem?_setIfInBounds_ne (Ne.symm hne)]
    · show (w.heap.setIfInBounds g _)[g]? = _
      simp [hlt]
    · simp [Rs.mpS] at hb
      subst hb
      show _ < (w.heap.setIfInBounds _ _).size
      simpa using hlt
theorem wo_entryStore {k : κ} {e : ε} {st : Nat} (hop : o.op = .entryStore T x y z) (hd : o.dst = none) (S : SH w M X H) (hi : nth H i = some (Rs.mpS kc vc g es k st)) (hx : oev L x = some (.map (some g))) (hy : oev L y = some (.int .i64 (st : Int))) (hz : oev L z = some (vc e))
    (hH : H.set i (Rs.mp kc vc g (Go.Proofs.YtlmcnpbkmihjkaaDoor.mp k e es)) = H') (h : ∀ w', SH w' M X H' → Kt L w') : WO P n o L w Kt := by
  obtain ⟨arr, clock, hg, ha, hstm, j, v, hfk, hb⟩ := (S.get hi : MpS kc vc g es k st (hp w))
  have hg' : w.heap[g]? = some (.map arr clock) := hg
  have hgo := MapKept.run_getObj_map (P := P) hg'
  have hlen : arr.toList.length = es.length := by have := congrArg List.length ha; simpa using this
  obtain ⟨hm, m, hj, p, hp1, hp2, hset⟩ := fk_some hfk
  obtain rfl : j = m := by omega
  have hjl : j < es.length := (List.getElem?_eq_some_iff.1 hp1).1
  have hja : j < arr.size := by rw [← Array.length_toList, hlen]; exact hjl
  have hkey : arr[j].key = kc k := by
    have h1 := congrArg (fun l => l[j]?) ha
    simp only [List.getElem?_map, hp1, Option.map_some] at h1
    rw [Array.getElem?_toList, Array.getElem?_eq_getElem hja] at h1
    simp only [Option.map_some, Option.some.injEq, Prod.mk.injEq] at h1
    rw [h1.1, hp2]
  rw [Array.getElem?_eq_getElem hja, Option.map_some, Option.some.injEq] at hb
  have hidx : arr.findIdx? (fun e => ((e.born : Nat) : Int) == (st : Int)) = some j := by
    obtain ⟨la⟩ := arr
    rw [show (Array.mk la).findIdx? (fun e => ((e.born : Nat) : Int) == (st : Int)) = la.findIdx? (fun e => ((e.born : Nat) : Int) == (st : Int)) from by simp]
    exact born_idx hstm.1 (by rw [Array.getElem?_toList, Array.getElem?_eq_getElem hja, Option.map_some, hb])
  have hrun : (Instr.entryStore T (.map (some g)) (.int .i64 (st : Int)) (vc e)).run P w = .ok () { w with heap := w.heap.setIfInBounds g (.map (arr.modify j fun e' => { e' with val := vc e }) clock) } := by
    simp [Instr.entryStore, hgo, asInt, asIntOf, hidx, MapKept.run_setObj_map _ hg', Result.andThen]
  have hlt := hp_lt hg
  refine wo_runS hd (w' := { w with heap := w.heap.setIfInBounds g (.map (arr.modify j fun e' => { e' with val := vc e }) clock) }) ?_ (h _ ?_)
  · intro n c he
    unfold execOp
    simp only [hop, he.eval hx, he.eval hy, he.eval hz, hrun, Sem.run_bind, Result.andThen_ok, Sem.run_pure]
  · refine S.step hi hH (like_setB w g _) (fun b _ hb => ?_) ⟨arr.modify j fun e' => { e' with val := vc e }, clock, ?_, ?_, ?_⟩ (fun b hb => ⟨.inl hb, ?_⟩)
    · have hne : b ≠ g := by simpa [Rs.mpS] using hb
      show (w.heap.setIfInBounds g _)[b]? = w.heap[b]?
      rw [Array.getElem?_setIfInBounds_ne (Ne.symm hne)]
    · show (w.heap.setIfInBounds g _)[g]? = _
      simp [hlt]
    · rw [hset e]
      apply List.ext_getElem?
      intro q
      have h1 := congrArg (fun l => l[q]?) ha
      simp only [List.getElem?_map] at h1 ⊢
      rw [Array.getElem?_toList, Array.getElem?_modify, List.getElem?_set]
      rw [Array.getElem?_toList] at h1
      by_cases hq : j = q
      · subst hq
        rw [if_pos rfl, if_pos rfl, if_pos hjl, Array.getElem?_eq_getElem hja]
        simp only [Option.map_some, hkey]
      · rw [if_neg hq, if_neg hq]
        exact h1
    · have hbn : (arr.modify j fun e' => { e' with val := vc e }).toList.map (·.born) = arr.toList.map (·.born) := by
        apply List.ext_getElem?
        intro q
        simp only [List.getElem?_map]
        rw [Array.getElem?_toList, Array.getElem?_modify, Array.getElem?_toList]
        by_cases hq : j = q
        · subst hq; rw [if_pos rfl, Array.getElem?_eq_getElem hja]; rfl
        · rw [if_neg hq]
      refine ⟨by rw [hbn]; exact hstm.1, fun x hx => ?_⟩
      have h2 : x.born ∈ arr.toList.map (·.born) := by rw [← hbn]; exact List.mem_map.2 ⟨x, hx, rfl⟩
      obtain ⟨y, hy, e2⟩ := List.mem_map.1 h2
      rw [← e2]; exact hstm.2 y hy
    · simp [Rs.mp] at hb
      subst hb
      show _ < (w.heap.setIfInBounds _ _).size
      simpa using hlt
end
section
variable {P : Program} {ops : Array Oper} {Q : Exit → Act → World → Prop} {md : Region.Mode} {X : Fr}
/-- What leaves memory alone and does not look at it; and what is never taken first. -/
def pureOpY (ops : Array Oper) (k : Nat) : Bool := match ops[k]? with
  | some o => (match o.op with
    | .move _ => true
    | .assign _ => true
    | .pick _ _ _ => true
    | .binOp _ _ _ _ _ => true
    | .unOp _ _ _ => true
    | .field _ _ _ => true
    | .extract _ _ => true
    | .fieldAddr _ _ _ => true
    | .nilCheck _ => true
    | .alloc _ => true
    | .box _ _ => true
    | .store _ _ _ => true
    | .buildSlice _ _ _ => true
    | .makeSlice _ _ _ => true
    | .lookup _ _ _ _ => true
    | _ => false)
  | none => false
/-- All that is listed comes before j, or is pure. -/
def closPY (md : Region.Mode) (ops : Array Oper) (l : Array Bool) (j : Nat) : Bool := (List.range ops.size).all fun k => !l.getD k false || pureOpY ops k || (allBefore md ops ops.size j).contains k
theorem closP_notY {l : Array Bool} (hd : Down md ops l) {i j : Nat} (hj : j ∈ Region.ready md ops l) (hc : closPY md ops (l.setIfInBounds i true) j = true) (hs : pureOpY ops i = false) (hlt : i < ops.size) (hil : ¬ l.getD i false = true) (hsz : i < l.size) : False := by
  have := List.all_eq_true.1 hc i (by simpa using hlt)
  have e : (l.setIfInBounds i true).getD i false = true := by simp [Array.getD_eq_getD_getElem?, hsz]
  simp only [e, Bool.not_true, hs, Bool.false_or] at this
  exact hil (down_all hd ops.size j (ready_preds hj) i (List.contains_iff_mem.1 this))
/-- Any order; what lay at the base (Mb, Hb) stays, unless all that is listed comes before. -/
def AnyMY (P : Program) (md : Region.Mode) (ops : Array Oper) (Q : Exit → Act → World → Prop) (X : Fr) : Nat → Array Bool → Act → Hp → List Rs → Hp → List Rs → Prop
  | 0, l, a, _, _, M, H => ∀ w, SH w M X H → Region.ready md ops l = [] ∧ Q .normal a w
  | f + 1, l, a, Mb, Hb, M, H => ∀ w, SH w M X H → Down md ops l → (Region.ready md ops l = [] → Q .normal a w) ∧
    ∀ j ∈ Region.ready md ops l, wpOp P ops Q j (fun a2 w2 => ∃ M2 H2, SH w2 M2 X H2 ∧
      ((Grown Mb Hb M2 H2 ∧ AnyMY P md ops Q X f (l.setIfInBounds j true) a2 Mb Hb M2 H2) ∨ (closPY md ops l j = true ∧ AnyMY P md ops Q X f (l.setIfInBounds j true) a2 M2 H2 M2 H2))) a w
theorem AnyMY.any : ∀ (f : Nat) (l : Array Bool) (a : Act) (Mb : Hp) (Hb : List Rs) (M : Hp) (H : List Rs) (w : World), SH w M X H → Down md ops l → AnyMY P md ops Q X f l a Mb Hb M H → wpAny P md ops Q f l a w := by
  intro f
  induction f with
  | zero => intro l a Mb Hb M H w S _ h; exact h w S
  | succ f ih =>
    intro l a Mb Hb M H w S hd h
    obtain ⟨h0, h1⟩ := h w S hd
    refine ⟨h0, fun j hj => wpOp_mono (fun a2 w2 hc => ?_) (h1 j hj)⟩
    obtain ⟨M2, H2, S2, ⟨_, hc⟩ | ⟨_, hc⟩⟩ := hc
    · exact ih _ _ _ _ _ _ _ S2 (down_set hd hj) hc
    · exact ih _ _ _ _ _ _ _ S2 (down_set hd hj) hc
theorem AnyMY.rebase : ∀ (f : Nat) (l : Array Bool) (a : Act) (Ma : Hp) (Ha : List Rs) (Mb : Hp) (Hb : List Rs) (M : Hp) (H : List Rs), Grown Ma Ha Mb Hb → AnyMY P md ops Q X f l a Mb Hb M H → AnyMY P md ops Q X f l a Ma Ha M H := by
  intro f
  induction f with
  | zero => intro l a Ma Ha Mb Hb M H _ h; exact h
  | succ f ih =>
    intro l a Ma Ha Mb Hb M H hg h w S hd
    obtain ⟨h0, h1⟩ := h w S hd
    refine ⟨h0, fun j hj => wpOp_mono (fun a2 w2 hc => ?_) (h1 j hj)⟩
    obtain ⟨M2, H2, S2, ⟨hg2, hc⟩ | ⟨h3, hc⟩⟩ := hc
    · exact ⟨M2, H2, S2, .inl ⟨hg.trans hg2, ih _ _ _ _ _ _ _ _ hg hc⟩⟩
    · exact ⟨M2, H2, S2, .inr ⟨h3, hc⟩⟩
/-- It yields v here; if it counts as pure, everywhere. -/
def YieldAY (P : Program) (ops : Array Oper) (X : Fr) (i : Nat) (o : Oper) (v : Value) (a : Act) (M : Hp) (H : List Rs) : Prop :=
  YieldM P ops X o v a M H ∧ (pureOpY ops i = true → ∀ M H, YieldM P ops X o v a M H)
theorem AnyMY.first_ {i : Nat} {oi : Oper} {v : Value} (hi : ops[i]? = some oi) (hsel : ∀ (j : Nat) (o : Oper) cs b, ops[j]? = some o → o.op ≠ .select cs b) (hQ : ∀ c a w, Q (.panic c) (a.put oi.dst v) w → Q (.panic c) a w) :
    ∀ (f : Nat) (l : Array Bool) (a : Act) (Mb : Hp) (Hb : List Rs) (M : Hp) (H : List Rs),
      (∀ j oj, ops[j]? = some oj → j ≠ i → l.getD j true = false → (∀ e ∈ oj.after, Region.binds md e = true → e.on ≠ i) → oi.apart ops oj = true) →
      i ∈ Region.ready md ops l → Grown Mb Hb M H → YieldAY P ops X i oi v a Mb Hb → AnyMY P md ops Q X f (l.setIfInBounds i true) (a.put oi.dst v) Mb Hb M H → AnyMY P md ops Q X (f + 1) l a Mb Hb M H := by
  intro f
  induction f with
  | zero =>
    intro l a Mb Hb M H _ hr hg hy hH w S hd
    refine ⟨fun h => (by rw [h] at hr; cases hr), fun j hj => ?_⟩
    by_cases hji : j = i
    · subst hji
      exact hy.1.wpOp S hg hi fun w2 S2 => ⟨M, H, S2, .inl ⟨hg, hH⟩⟩
    · have := ready_mono hj hji
      rw [(hH w S).1] at this
      cases this
  | succ f ih =>
    intro l a Mb Hb M H hfree hr hg hy hH w S hd
    refine ⟨fun h => (by rw [h] at hr; cases hr), fun j hj => ?_⟩
    by_cases hji : j = i
    · subst hji
      exact hy.1.wpOp S hg hi fun w2 S2 => ⟨M, H, S2, .inl ⟨hg, hH⟩⟩
    · have h1 := (hH w S (down_set hd hr)).2 j (ready_mono hj hji)
      obtain ⟨hjun, oj, hoj, hall⟩ := mem_ready.1 hj
      have hiun := (mem_ready.1 hr).1
      have hilt : i < ops.size := (Array.getElem?_eq_some_iff.1 hi).1
      have hisz : i < l.size := by
        rcases Nat.lt_or_ge i l.size with h' | h'
        · exact h'
        · simp [Array.getD_eq_getD_getElem?, Array.getElem?_eq_none h'] at hiun
      have hnl : ¬ l.getD i false = true := by
        intro h
        simp [hisz] at h hiun; rw [hiun] at h; cases h
      have hnot : ∀ e ∈ oj.after, Region.binds md e = true → e.on ≠ i := fun e he hb heq => hnl (by have h2 := hall e he hb; rw [heq] at h2; exact h2)
      have hap := hfree j oj hoj hji hjun hnot
      obtain ⟨p1, p2, p3⟩ := Oper.apart_spec hap
      have hfree' : ∀ k ok, ops[k]? = some ok → k ≠ i → (l.setIfInBounds j true).getD k true = false → (∀ e ∈ ok.after, Region.binds md e = true → e.on ≠ i) → oi.apart ops ok = true := fun k ok hk hki hun hno => by
        refine hfree k ok hk hki ?_ hno
        by_cases hjk : j = k
        · subst hjk; exact hjun
        · rw [getD_set_ne true hjk] at hun; exact hun
      have keep1 : ∀ (b : Act) (M : Hp) (H : List Rs), YieldM P ops X oi v b M H → ∀ u, YieldM P ops X oi v (b.put oj.dst u) M H := fun b M H hb u => hb.of_same (execOp_put oi (fun cs b => hsel i oi cs b hi) b oj.dst u p3) (wanted_put oi b oj.dst u p3)
      have keep : ∀ (b : Act), YieldAY P ops X i oi v b Mb Hb → ∀ u, YieldAY P ops X i oi v (b.put oj.dst u) Mb Hb := fun b hb u => ⟨keep1 b Mb Hb hb.1 u, fun hp M' H' => keep1 b M' H' (hb.2 hp M' H') u⟩
      have cont : ∀ (b : Act) (w2 : World), YieldAY P ops X i oi v b Mb Hb → (∃ M2 H2, SH w2 M2 X H2 ∧ ((Grown Mb Hb M2 H2 ∧ AnyMY P md ops Q X f ((l.setIfInBounds i true).setIfInBounds j true) (b.put oi.dst v) Mb Hb M2 H2) ∨ (closPY md ops (l.setIfInBounds i true) j = true ∧ AnyMY P md ops Q X f ((l.setIfInBounds i true).setIfInBounds j true) (b.put oi.dst v) M2 H2 M2 H2))) →
          (∃ M2 H2, SH w2 M2 X H2 ∧ ((Grown Mb Hb M2 H2 ∧ AnyMY P md ops Q X (f + 1) (l.setIfInBounds j true) b Mb Hb M2 H2) ∨ (closPY md ops l j = true ∧ AnyMY P md ops Q X (f + 1) (l.setIfInBounds j true) b M2 H2 M2 H2))) := by
        intro b w2 hb hc
        obtain ⟨M2, H2, S2, ⟨hg2, hc⟩ | ⟨hx, hc⟩⟩ := hc
        · rw [Array.setIfInBounds_comm _ _ (Ne.symm hji)] at hc
          exact ⟨M2, H2, S2, .inl ⟨hg2, ih (l.setIfInBounds j true) b Mb Hb M2 H2 hfree' (ready_mono hr (Ne.symm hji)) hg2 hb hc⟩⟩
        · cases hp : pureOpY ops i with
          | false => exact (closP_notY hd hj hx hp hilt hnl hisz).elim
          | true =>
            rw [Array.setIfInBounds_comm _ _ (Ne.symm hji)] at hc
            refine ⟨M2, H2, S2, .inr ⟨?_, ih (l.setIfInBounds j true) b M2 H2 M2 H2 hfree' (ready_mono hr (Ne.symm hji)) (Grown.refl _ _) ⟨hb.2 hp M2 H2, hb.2⟩ hc⟩⟩
            refine List.all_eq_true.2 fun k hk => ?_
            have := List.all_eq_true.1 hx k hk
            by_cases hki : i = k
            · subst hki; simp [hp]
            · rw [getD_set_ne false hki] at this
              exact this
      unfold Go.wpOp at h1 ⊢
      simp only [hoj] at h1 ⊢
      rw [wanted_put oj a oi.dst v p1] at h1
      have hse := execOp_put oj (fun cs b => hsel j oj cs b hoj) a oi.dst v p1
      split
      · rename_i hw
        simp only [hw, if_true] at h1
        rcases h1 with h1 | ⟨hasks, hlets⟩
        · refine .inl (wp_shift hse (fun u w2 hk => ?_) (fun d w2 hk => ?_) (fun c w2 hq => hQ c _ _ hq) h1)
          · refine cont _ w2 (keep a hy u) ?_
            rw [← Act.put_comm a v u p2]
            exact hk
          · have hd0 : YieldAY P ops X i oi v ({ a with defers := d :: a.defers } : Act) Mb Hb := ⟨hy.1.of_same rfl rfl, fun hp M' H' => (hy.2 hp M' H').of_same rfl rfl⟩
            refine cont _ w2 (keep { a with defers := d :: a.defers } hd0 _) ?_
            rw [← Act.put_comm _ v undef p2, ← Act.put_defers]
            exact hk
        · exact .inr ⟨asks_shift hse hasks, hlets⟩
      · rename_i hw
        simp only [hw] at h1
        refine cont _ w (keep a hy _) ?_
        rw [← Act.put_comm a v undef p2]
        exact h1
end
section
variable {P : Program} {n : Nat} {C : Ctx} {c : Code} {s : List K} {L : List (Nat × Value)} {w : World} {Mb M : Hp} {X : Fr} {Hb H : List Rs} {l : Array Bool} {f : Nat}
def WAY (P : Program) (n : Nat) (C : Ctx) (c : Code) (s : List K) (X : Fr) (f : Nat) (l : Array Bool) (L : List (Nat × Value)) (Mb : Hp) (Hb : List Rs) (M : Hp) (H : List Rs) : Prop := Grown Mb Hb M H → ∀ a, Env n L a → AnyMY P .any (rg c) (post P C s) X f l a Mb Hb M H
theorem ws_drawY (hk : kind c = 8) (hm : P.follows .mixedOrders = true) (S : SH w M X H) (f : Nat) (hf : (rg c).size = f) (h : WAY P n C c s X f (Array.replicate f false) L M H M H) : WS P n C c s L w := by
  intro a ha
  rw [kind_draw hk]
  refine wp_region_any hm ?_
  rw [hf]
  exact AnyMY.any _ _ _ _ _ _ _ _ (S.kp ⟨rfl, rfl, rfl, Nat.le_refl _⟩ fun _ _ => rfl) (down_start _) (h (Grown.refl _ _) a ha)
theorem waY_end (hr : Region.ready .any (rg c) l = []) (h : ∀ w, SH w M X H → NM P n C s L w) : WAY P n C c s X f l L Mb Hb M H := by
  intro _ a ha
  cases f with
  | zero => exact fun w S => ⟨hr, h w S a ha⟩
  | succ f => exact fun w S _ => ⟨fun _ => h w S a ha, by rw [hr]; simp⟩
theorem waY_base (h : WAY P n C c s X f l L M H M H) : WAY P n C c s X f l L Mb Hb M H := fun hg a ha => AnyMY.rebase _ _ _ _ _ _ _ _ _ hg (h (Grown.refl _ _) a ha)
theorem waY_take {i d : Nat} {o : Oper} {v : Value} (f : Nat) (ho : op c i = some o) (hs : (Region.noSelect (rg c) && !pureOpY (rg c) i) = true) (hf : Region.free .any (rg c) l i = true) (hr : (Region.ready .any (rg c) l).contains i = true)
    (hg : Wanted c L o.guard true) (hd : o.dst = some d) (hn : (Nat.blt d n && gslot c o n) = true)
    (hy : ∀ M2 N w, Mb.le M2 → SH w M2 X (N ++ Hb) → (Run P o L w v w ∨ ∃ fid vs, (∀ n a, Env n L a → (execOp a.eval o).run P w = .ok (.enter fid vs) w) ∧ Calls P fid vs w fun e w3 => e = .returned v ∧ SH w3 M2 X (N ++ Hb)))
    (h : WAY P n C c s X f (l.setIfInBounds i true) ((d, v) :: L) Mb Hb M H) : WAY P n C c s X (f + 1) l L Mb Hb M H := by
  intro hg0 a ha
  simp only [Bool.and_eq_true] at hn
  simp only [Bool.and_eq_true, Bool.not_eq_true'] at hs
  refine AnyMY.first_ (v := v) (op_get ho) (Region.noSelect_spec hs.1) (fun ch b w hq => post_panic (put_defers' _ _ _) hq) f l a Mb Hb M H (Region.free_spec (op_get ho) hf) (by simpa using hr) hg0 ⟨?_, fun hp => by rw [hs.2] at hp; cases hp⟩ ?_
  · refine .inl ⟨wanted_eq ha hg (gslot_spec hn.2), fun M2 N w k S => ?_⟩
    rcases hy M2 N w k S with hrun | ⟨fid, vs, h1, h2⟩
    · rw [hrun n a ha]
      exact ⟨rfl, S⟩
    · rw [h1 n a ha]
      exact h2
  · rw [hd]
    exact h hg0 _ (ha.put (by simpa using hn.1) v)
theorem waY_takeP {i d : Nat} {o : Oper} {v : Value} (f : Nat) (ho : op c i = some o) (hs : Region.noSelect (rg c) = true) (hf : Region.free .any (rg c) l i = true) (hr : (Region.ready .any (rg c) l).contains i = true)
    (hg : Wanted c L o.guard true) (hd : o.dst = some d) (hn : (Nat.blt d n && gslot c o n) = true) (hy : ∀ w, Run P o L w v w)
    (h : WAY P n C c s X f (l.setIfInBounds i true) ((d, v) :: L) Mb Hb M H) : WAY P n C c s X (f + 1) l L Mb Hb M H := by
  intro hg0 a ha
  simp only [Bool.and_eq_true] at hn
  have key : ∀ M H, YieldM P (rg c) X o v a M H := fun M H => .inl ⟨wanted_eq ha hg (gslot_spec hn.2), fun M2 N w k S => by
    rw [hy w n a ha]
    exact ⟨rfl, S⟩⟩
  refine AnyMY.first_ (v := v) (op_get ho) (Region.noSelect_spec hs) (fun ch b w hq => post_panic (put_defers' _ _ _) hq) f l a Mb Hb M H (Region.free_spec (op_get ho) hf) (by simpa using hr) hg0 ⟨key Mb Hb, fun _ => key⟩ ?_
  rw [hd]
  exact h hg0 _ (ha.put (by simpa using hn.1) v)
/-- What an operation that has been carried out leaves. -/
def LeftWY (P : Program) (n : Nat) (C : Ctx) (c : Code) (s : List K) (X : Fr) (f : Nat) (l : Array Bool) (j : Nat) (Mb : Hp) (Hb : List Rs) (L' : List (Nat × Value)) (w' : World) : Prop :=
  ∃ M2 H2, SH w' M2 X H2 ∧ ((Grown Mb Hb M2 H2 ∧ WAY P n C c s X f (l.setIfInBounds j true) L' Mb Hb M2 H2) ∨ (closPY .any (rg c) l j = true ∧ WAY P n C c s X f (l.setIfInBounds j true) L' M2 H2 M2 H2))
theorem LeftWY.grow {j : Nat} {L' : List (Nat × Value)} {w' : World} {M2 : Hp} (N : List Rs) (k : Mb.le M2) (S : SH w' M2 X (N ++ Hb)) (h : WAY P n C c s X f (l.setIfInBounds j true) L' Mb Hb M2 (N ++ Hb)) : LeftWY P n C c s X f l j Mb Hb L' w' := ⟨M2, N ++ Hb, S, .inl ⟨⟨k, N, rfl⟩, h⟩⟩
theorem LeftWY.turn {j : Nat} {L' : List (Nat × Value)} {w' : World} {M2 : Hp} {H2 : List Rs} (hc : closPY .any (rg c) l j = true) (S : SH w' M2 X H2) (h : WAY P n C c s X f (l.setIfInBounds j true) L' M2 H2 M2 H2) : LeftWY P n C c s X f l j Mb Hb L' w' := ⟨M2, H2, S, .inr ⟨hc, h⟩⟩
theorem LeftWY.out {j : Nat} {L' : List (Nat × Value)} {w' : World} {a' : Act} (he : Env n L' a') (h : LeftWY P n C c s X f l j Mb Hb L' w') : ∃ M2 H2, SH w' M2 X H2 ∧
      ((Grown Mb Hb M2 H2 ∧ AnyMY P .any (rg c) (post P C s) X f (l.setIfInBounds j true) a' Mb Hb M2 H2) ∨ (closPY .any (rg c) l j = true ∧ AnyMY P .any (rg c) (post P C s) X f (l.setIfInBounds j true) a' M2 H2 M2 H2)) := by
  obtain ⟨M2, H2, S, ⟨hg, h⟩ | ⟨hc, h⟩⟩ := h
  · exact ⟨M2, H2, S, .inl ⟨hg, h hg a' he⟩⟩
  · exact ⟨M2, H2, S, .inr ⟨hc, h (Grown.refl _ _) a' he⟩⟩
theorem wp_leftY {i : Nat} {o : Oper} {a : Act} (ho : op c i = some o) (ha : Env n L a) (hg : Wanted c L o.guard true) (hs : gslot c o n = true) (h : WO P n o L w (LeftWY P n C c s X f l i Mb Hb)) : Go.wpOp P (rg c) (post P C s) i (fun a2 w2 => ∃ M2 H2, SH w2 M2 X H2 ∧
      ((Grown Mb Hb M2 H2 ∧ AnyMY P .any (rg c) (post P C s) X f (l.setIfInBounds i true) a2 Mb Hb M2 H2) ∨ (closPY .any (rg c) l i = true ∧ AnyMY P .any (rg c) (post P C s) X f (l.setIfInBounds i true) a2 M2 H2 M2 H2))) a w := by
  unfold Go.wpOp
  simp only [op_get ho]
  rw [if_pos (wanted_eq ha hg (gslot_spec hs))]
  exact .inl (h a ha _ _ fun L' a' w' he hl => hl.out he)
/-- The only one that is ready. -/
theorem waY_only {i : Nat} {o : Oper} (f : Nat) (ho : op c i = some o) (hr : Region.ready .any (rg c) l = [i]) (hg : Wanted c L o.guard true) (hs : gslot c o n = true)
    (h : ∀ w, SH w M X H → WO P n o L w (LeftWY P n C c s X f l i Mb Hb)) : WAY P n C c s X (f + 1) l L Mb Hb M H := by
  intro _ a ha w S hd
  refine ⟨fun h0 => (by rw [hr] at h0; cases h0), fun k hk => ?_⟩
  rw [hr, List.mem_singleton] at hk
  subst hk
  exact wp_leftY ho ha hg hs (h w S)
/-- Two are ready: either may come first. -/
theorem waY_two {i j : Nat} {o o' : Oper} (f : Nat) (ho : op c i = some o) (ho' : op c j = some o') (hr : Region.ready .any (rg c) l = [i, j]) (hg : Wanted c L o.guard true) (hs : gslot c o n = true) (hg' : Wanted c L o'.guard true) (hs' : gslot c o' n = true)
    (h : ∀ w, SH w M X H → WO P n o L w (LeftWY P n C c s X f l i Mb Hb)) (h' : ∀ w, SH w M X H → WO P n o' L w (LeftWY P n C c s X f l j Mb Hb)) : WAY P n C c s X (f + 1) l L Mb Hb M H := by
  intro _ a ha w S hd
  refine ⟨fun h0 => (by rw [hr] at h0; cases h0), fun k hk => ?_⟩
  rw [hr] at hk
  rcases List.mem_cons.1 hk with rfl | hk
  · exact wp_leftY ho ha hg hs (h w S)
  · rw [List.mem_singleton] at hk
    subst hk
    exact wp_leftY ho' ha hg' hs' (h' w S)
end
section
variable {P : Program} {n : Nat} {C : Ctx} {c : Code} {s : List K} {L : List (Nat × Value)} {w : World} {M : Hp} {X : Fr} {H : List Rs}
end
end Go.Proofs.YtlmcnpbkmihjkaaDoor
